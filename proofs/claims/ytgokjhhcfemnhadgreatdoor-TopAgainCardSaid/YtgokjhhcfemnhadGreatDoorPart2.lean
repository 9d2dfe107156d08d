/- A part of the proof that the law TopAgainCard holds of the given program: facts that are used there. -/
import Derived.Test.YtgokjhhcfemnhadGreatDoorPart1
import Derived.Deep.Heap
import Derived.Room.AppendFits
import Derived.Lib.UnsafeStr
import Derived.Lib.SplitLaws
import Derived.Lib.ItoaNum
import Derived.Lib.AtoiAll
import Derived.RangeFuncWrites
import Derived.RangeFuncCalls
import Derived.OrdersIn
import Derived.TacticsIn
import Derived.RangeFuncBox
set_option linter.unusedSimpArgs false
set_option linter.unusedVariables false
set_option linter.defProp false
noncomputable section
open True renaming intro->aa
open Go.Lib renaming itoa->ab,trimSuffix->ae,hasPrefix->av,trimPrefix->ax,decDigits->ay,index->bm,parseUint10->bo,atoiAll->b6,splitK->cn,strCells->ct,strCells_length->dk
open Bool renaming and_eq_true->af,or_eq_true->bq,not_eq_true'->cf,or_eq_false_iff->du,not_eq_true->fg,and_false->fm
open List renaming mem_cons->ag,take->ah,drop->ai,map_cons->aj,mem_append->au,length_append->aw,range->ba,replicate->bb,mem_map->bf,length_take->bh,length->bj,mem_of_getElem?->br,mem_map_of_mem->bw,flatMap_cons->bx,drop_eq_nil_of_le->b3,mem_of_mem_take->b8,all_eq_true->ca,take_length->cb,mem_cons_of_mem->cd,take_of_length_le->cg,nodup_cons->ch,length_cons->cj,filter_cons->ck,isPrefixOf->cm,range_succ->cq,append_assoc->cu,any_eq_true->cw,any_eq_false->cy,all_eq_false->c6,pairwise_cons->c8,length_singleton->da,mem_singleton->db,size_toArray->di,map_map->dn,getElem_of_mem->dw,take_add_one->dx,length_map->ec,cons_append->ee,drop_zero->ef,mem_filterMap->eg,mem_append_right->ei,mem_range->er,drop_eq_getElem_cons->et,nil_append->ew,mem_filter->ez,nodup_append->e9,take_succ_cons->fb,mem_append_left->fj,take_zero->fk,length_nil->fl,mem_flatMap->fo
open Nat renaming le_refl->ak,zero_le->ar,min->a8,not_lt->bc,lt_or_ge->bg,beq->bp,eq_of_beq_eq_true->bz,le_trans->b5,min_eq_left->c7,lt_of_lt_of_le->de,zero_add->dh,le_of_ble_eq_true->ek,strongRecOn->fc,min_eq_right->fp
open Int renaming not_lt->ao,le_refl->az,le_trans->b7,toNat->cc,not_le->cp,ofNat_le->dc,ofNat_inj->dd,toNat_natCast->dv,toNat_of_nonneg->eu,tmod_eq_emod_of_nonneg->ey,le_sub_one_of_lt->fe
open Classical renaming byContradiction->aq,choose->b9,choose_spec->cz
open Go.IntKind renaming u64->a7,u8->dm,min->dp,max->dq,signed->dr,bits->dt,wrap->dT
open Go.Fence renaming wide->bd
open Go.Value renaming int->bt,ownBlock->ft
open Go.Op renaming bytesLess->bu
open BitVec renaming ofInt->b4
open Go.Oper renaming uponIn->cr,semAt_eq->fq
open Option.some renaming injEq->df,inj->dy
open Option renaming isSome_iff_exists->dj,bind_some->fh
open UInt8 renaming lt_iff_toNat_lt->dz,ofNat->ed,toNat_ofNat'->ep
open Array renaming getD_eq_getD_getElem?->eh,toArray_toList->fv
open Go.World renaming block_lt_of_cell?->ej,putObj_heap_other->fu
open Go.Builtin renaming append_->en
open Go.Result renaming andThen_ok->eo
open List.Perm renaming swap->e8
open Go.Region renaming Mode->fs
open Go.RowKit.Below renaming refl->fw
namespace Go.Vg
open Go.RowKit
def kv:List Cl->St->List cO->List cO×St
 |.d _ :: r,st,v :: vs=>match AB st v with
  |(v',st1)=>match kv r st1 vs with
   |(vs',st2)=>(v' :: vs',st2)
 |.obj _ :: r,st,v :: vs=>match kv r st vs with
  |(vs',st2)=>(v :: vs',st2)
 |.gV :: r,st,v :: vs=>match kv r st vs with
  |(vs',st2)=>(v :: vs',st2)
 |_,st,vs=>(vs,st)
def qH:List (Nat×OC)->List Nat->List (Nat×OC)
 |l,[]=>l
 |l,n :: r=>qH (rO l n) r
def mE:List Ob->List Ob->List Nat->Nat->List Nat
 |o :: os,o' :: os',n :: ns,b=>(match lf o o' with|true=>n|false=>b) :: mE os os' ns (b+1)
 |_,_ :: os',_,b=>b :: mE [] os' [] (b+1)
 |_,[],_,_=>[]
def Dg:Nat->List Ob->List Ob->List (Nat×Nat)
 |k,o :: os,o' :: os'=>match lf o o' with
  |true=>(k,k) :: Dg (k+1) os os'
  |false=>Dg (k+1) os os'
 |_,_,_=>[]
def u5:Nat->List Ob->List Ob->List Nat->Bool
 |k,o :: os,o' :: os',n :: ns=>(match lf o o' with|true=>bp n k|false=>true)&&u5 (k+1) os os' ns
 |_,_,_,_=>true
structure Alt (aM:List Ob) (args:List Cl):Type 1 where
 cv:Bool:=false
 bN:List Ob
 res:List Cl
 ok:CD args->PD aM->Prop:=fun _ _=>True
 out:CD args->PD aM->PD bN
 ret:CD args->PD aM->CD res
section
variable{aM:List Ob}{args:List Cl}
def Gb(al:Alt aM args)(a:CD args)(x:PD aM)(ν:List Nat)(st:St)(K:SV->St->VC):VC:=
 match nodupB (mE aM al.bN ν st.next)&&jW (st.next+al.bN.length) (mE aM al.bN ν st.next)with
 |true =>.imp (al.ok a x) (K (sK (wF (iu al.bN (al.out a x) (mE aM al.bN ν st.next)) al.res (al.ret a x)))
   {env:=st.env,aF:=lS (iu al.bN (al.out a x) (mE aM al.bN ν st.next)) al.bN (al.out a x) (mE aM al.bN ν st.next)++qH st.aF ν,next:=st.next+al.bN.length})
 |false =>.ff
def wR(a:CD args)(x:PD aM)(ν:List Nat)(st:St)(K:SV->St->VC):List (Alt aM args)->VC
 |[] =>.leaf True
 |[al]=>Gb al a x ν st K
 |al :: al2 :: r =>.both (Gb al a x ν st K) (wR a x ν st K (al2 :: r))
def aU(aM:List Ob)(args:List Cl)(pre:CD args->PD aM->Prop)(alts:List (Alt aM args)):aT:=fun XF st K=>
 match kv args st XF with
 |(XF,st)=>match Ut aM args XF st.aF []with
  |some ν=>match nodupB ν,lT false st.aF aM ν args XF,eC false st.aF aM ν aM ν with
   |true,some a,some x=>Sl (me aM x args XF++iO aM x st.aF aM ν) (.and (pre a x) (wR a x ν st K alts))
   |_,_,_ =>.ff
  |none =>.ff
def kz(aM:List Ob)(args:List Cl)(a:CD args)(x:PD aM):St:=
 {env:=pY 0 (wF (iu aM x (upto 0 aM.length)) args a),aF:=lS (iu aM x (upto 0 aM.length)) aM x (upto 0 aM.length),next:=aM.length}
def sL(a:CD args)(x:PD aM)(vs:List cO)(st:St):List (Alt aM args)->VC
 |[] =>.ff
 |al :: r=>match kv al.res st vs with
  |(vs',st')=>match Ut al.bN al.res vs' st'.aF (Dg 0 aM al.bN)with
   |some ν=>match nodupB ν&&(u5 0 aM al.bN ν&&(!al.cv || (sG aM&&(gz al.bN&&jE al.res)))),lT al.cv st'.aF al.bN ν al.res vs',eC al.cv st'.aF al.bN ν al.bN ν with
    |true,some b,some y =>.leaf (GX (me al.bN y al.res vs'++iO al.bN y st'.aF al.bN ν++[al.ok a x/\y=al.out a x/\b=al.ret a x]))
    |_,_,_=>sL a x vs st r
   |none=>sL a x vs st r
def cR(B:Cx)(Γ:List (FuncId×(Bool×aT)))(fn:Func)(anns:dO)(aM:List Ob)(args:List Cl)(alts:List (Alt aM args))(a:CD args)(x:PD aM):VC:=
 Mr (qV B Γ fn.ntmps) anns fn.results.toList (codeOf fn) (kz aM args a x) fun vs st'=>sL a x vs st' alts
def gH:(cls:List Cl)->CD cls->Prop
 |[],_=>True
 |.d t :: r,x=>wf t x.1/\gH r x.2
 |.obj _ :: r,x=>gH r x
 |.gV :: r,x=>gH r x
end
section
variable{eT:TypeId}{X:Ext}
def qW{k:Nat}:∀{l:List Nat} {n:Nat},jW k l=true->n∈l->n<k
 |[],_,_,h=>by simp at h
 |m :: r,n,h,hn=>by
  simp only[jW,af]at h;rcases ag.1 hn with e|hn
  ·rw[e];exact mc h.1
  ·exact qW h.2 hn
def mv(m:Nat):∀(ns:List Nat) (l:List (Nat×OC)),look (qH l ns) m=if m∈ns then none else look l m
 |[],l=>by simp[qH]
 |n :: r,l=>by
  simp only[qH];rw[mv m r,lR];by_cases h1:m∈r
  ·simp[h1]
  ·by_cases h2:n=m
   ·subst h2;simp
   ·have:¬m=n:=fun e=>h2 e.symm
    simp[h1,h2,this]
def qI:∀{aM bN:List Ob} {ν:List Nat} {b i n:Nat},(mE aM bN ν b)[i]?=some n->
  (∃o o',aM[i]?=some o/\bN[i]?=some o'/\lf o o'=true/\ν[i]?=some n)\/b<=n
 |aM,[],ν,b,i,n,h=>by
  cases aM <;> cases ν <;> simp[mE]at h
 |[],o' :: os',ν,b,i,n,h=>by
  simp only[mE]at h;cases i with
  |zero=>simp at h;exact .inr (by omega)
  |succ i=>
   rcases qI (aM:=[]) (ν:=[]) (by simpa using h)with⟨o,_,h1,_⟩|h1
   ·simp at h1
   ·exact .inr (by omega)
 |o :: os,o' :: os',[],b,i,n,h=>by
  simp only[mE]at h;cases i with
  |zero=>simp at h;exact .inr (by omega)
  |succ i=>
   rcases qI (aM:=[]) (ν:=[]) (by simpa using h)with⟨o,_,h1,_⟩|h1
   ·simp at h1
   ·exact .inr (by omega)
 |o :: os,o' :: os',n0 :: ns,b,i,n,h=>by
  simp only[mE]at h;cases i with
  |zero=>
   simp only[List.getElem?_cons_zero,df]at h;split at h
   ·rename_i hk;exact .inl ⟨o,o',rfl,rfl,hk,by simp[h]⟩
   ·exact .inr (by omega)
  |succ i=>
   rcases qI (by simpa using h)with⟨a,a',h1,h2,h3⟩|h1
   ·exact .inl ⟨a,a',by simpa using h1,by simpa using h2,by simpa using h3⟩
   ·exact .inr (by omega)
def pZ:∀{aM bN:List Ob} {ν:List Nat} {b:Nat},(mE aM bN ν b).length=bN.length
 |aM,[],ν,b=>by cases aM <;> cases ν <;> rfl
 |[],o' :: os',ν,b=>by simp[mE,pZ]
 |o :: os,o' :: os',[],b=>by simp[mE,pZ]
 |o :: os,o' :: os',n0 :: ns,b=>by simp[mE,pZ]
def BZ:∀{aM bN:List Ob} {ν:List Nat} {k i n:Nat} {o o':Ob},u5 k aM bN ν=true->aM[i]?=some o->bN[i]?=some o'->lf o o'=true->ν[i]?=some n->n=k+i
 |[],_,_,_,_,_,_,_,_,h,_,_,_=>by simp at h
 |_ :: _,[],_,_,_,_,_,_,_,_,h,_,_=>by simp at h
 |_ :: _,_ :: _,[],_,_,_,_,_,_,_,_,_,h=>by simp at h
 |a :: os,a' :: os',m :: ns,k,0,n,o,o',h,h1,h2,h3,h4=>by
  simp at h1 h2 h4;subst h1;subst h2;subst h4;simp only[u5,h3,af]at h;have:=bz h.1;omega
 |a :: os,a' :: os',m :: ns,k,i+1,n,o,o',h,h1,h2,h3,h4=>by
  simp only[u5,af]at h;have:=BZ h.2 (by simpa using h1) (by simpa using h2) h3 (by simpa using h4);omega
def Eh:∀{l:List Ob} {o:Ob} {t:Ty},sG l=true->o∈l->o≠.tok t
 |[],_,_,_,h=>by simp at h
 |a :: r,o,t,h,ho=>by
  rcases ag.1 ho with e|ho
  ·subst e;intro e;subst e;simp[sG]at h
  ·exact Eh (by cases a <;> simp_all [sG]) ho
def yl{S:bH}{F:Nat->Value->Prop}:∀{cls:List Cl} {x:CD cls} {vs:List Value},th eT S F cls x vs->gH cls x
 |[],_,_,_=>trivial
 |.d t :: r,x,v :: vs,h=>⟨h.1.wf,yl h.2⟩
 |.obj k :: r,x,v :: vs,h=>yl (cls:=r) h.2
 |.gV :: r,x,v :: vs,h=>yl (cls:=r) h.2
def u6{S:bH}{F:Nat->Value->Prop}:∀{cls:List Cl} {x:CD cls} {vs:List Value},th eT S F cls x vs->vs.length=cls.length
 |[],_,_,h=>by rw[show _=[]from h];rfl
 |.d t :: r,x,v :: vs,h=>by simp[u6 h.2]
 |.obj k :: r,x,v :: vs,h=>by simp[u6 (cls:=r) h.2]
 |.gV :: r,x,v :: vs,h=>by simp[u6 (cls:=r) h.2]
def u7{O:aH}{loc:Nat->Loc}{w:World}:∀(cls:List Cl) (xs:List cO) {st:St},Good eT X (aA O st loc w)->
  Tr (aA O st loc w) (aA O (kv cls st xs).2 loc w)/\Good eT X (aA O (kv cls st xs).2 loc w)/\(kv cls st xs).2.env=st.env/\
   ∀vs,cP eT (aA O st loc w) xs vs->cP eT (aA O (kv cls st xs).2 loc w) (kv cls st xs).1 vs:=by
 intro cls;induction cls with
 |nil=>intro xs st g;exact⟨Tr.refl _,g,rfl,fun vs h=>h⟩
 |cons cl r ih=>
  intro xs st g;cases xs with
  |nil=>cases cl <;> exact⟨Tr.refl _,g,rfl,fun vs h=>h⟩
  |cons x xs=>
   cases cl with
   |d t=>
    have g':Good (Cx.mk eT [] [] [] 0 [] [] [] false [] []).eT X (aA O st loc w):=g;obtain⟨t1,g1,e1,k1⟩:=u4 g' x;obtain⟨t2,g2,e2,k2⟩:=ih xs g1;refine⟨t1.trans t2,g2,e2.trans e1,fun vs h =>?_⟩;cases h with
    |cons h1 h3=>exact .cons ((k1 _ h1).tr t2) (k2 _ (h3.tr t1))
   |obj k=>
    obtain⟨t2,g2,e2,k2⟩:=ih xs g;refine⟨t2,g2,e2,fun vs h =>?_⟩;cases h with
    |cons h1 h3=>exact .cons (h1.tr t2) (k2 _ h3)
   |gV=>
    obtain⟨t2,g2,e2,k2⟩:=ih xs g;refine⟨t2,g2,e2,fun vs h =>?_⟩;cases h with
    |cons h1 h3=>exact .cons (h1.tr t2) (k2 _ h3)
end
section
variable{X:Ext}{P:Program}{aM:List Ob}{args:List Cl}
def B0{a:CD args}{x:PD aM}{ν:List Nat}{st:St}{K:SV->St->VC}:∀{alts:List (Alt aM args)},(wR a x ν st K alts).holds->∀al∈alts,(Gb al a x ν st K).holds
 |[],_,al,h=>by simp at h
 |[al0],h,al,ha=>by simp at ha;subst ha;exact h
 |al0 :: al1 :: r,h,al,ha=>by
  rcases ag.1 ha with e|ha
  ·subst e;exact h.1
  ·exact B0 h.2 al ha
def Ei{a:CD args}{x:PD aM}{vs:List cO}{st:St}:∀{alts:List (Alt aM args)},(sL a x vs st alts).holds->∃al∈alts,∃ν,
  nodupB ν=true/\u5 0 aM al.bN ν=true/\(al.cv=false\/(sG aM=true/\gz al.bN=true/\jE al.res=true))/\al.ok a x/\
  lT al.cv (kv al.res st vs).2.aF al.bN ν al.res (kv al.res st vs).1=some (al.ret a x)/\eC al.cv (kv al.res st vs).2.aF al.bN ν al.bN ν=some (al.out a x)/\
  (∀p∈me al.bN (al.out a x) al.res (kv al.res st vs).1,p)/\(∀p∈iO al.bN (al.out a x) (kv al.res st vs).2.aF al.bN ν,p)
 |[],h=>h.elim
 |al :: r,h=>by
  have rest:(sL a x vs st r).holds->∃al'∈al :: r,∃ν,
    nodupB ν=true/\u5 0 aM al'.bN ν=true/\(al'.cv=false\/(sG aM=true/\gz al'.bN=true/\jE al'.res=true))/\al'.ok a x/\
    lT al'.cv (kv al'.res st vs).2.aF al'.bN ν al'.res (kv al'.res st vs).1=some (al'.ret a x)/\eC al'.cv (kv al'.res st vs).2.aF al'.bN ν al'.bN ν=some (al'.out a x)/\
    (∀p∈me al'.bN (al'.out a x) al'.res (kv al'.res st vs).1,p)/\(∀p∈iO al'.bN (al'.out a x) (kv al'.res st vs).2.aF al'.bN ν,p):=fun h=>by
   obtain⟨al',h1,h2⟩:=Ei h;exact⟨al',by simp[h1],h2⟩
  simp only[sL]at h;split at h
  ·rename_i ν hν
   split at h
   ·rename_i b y hc hb hy
    simp only[af,bq,cf]at hc;obtain⟨h1,h2,h3⟩:=hc;have hall:=uQ h;have k3:al.ok a x/\y=al.out a x/\b=al.ret a x:=hall _ (ei _ (by simp));obtain⟨k4,k5,k6⟩:=k3;subst k5;subst k6;obtain⟨k1,_⟩:=jh.1 hall;obtain⟨k1,k2⟩:=jh.1 k1;exact⟨al,by simp,ν,h1,h2,h3,k4,hb,hy,k1,k2⟩
   ·exact rest h
  ·exact rest h
def Ej{B:Cx}{f:FuncId}{pre:CD args->PD aM->Prop}{alts:List (Alt aM args)}
  {O:aH}{st:St}{loc:Nat->Loc}{w:World}{XF:List cO}{vs:List Value}{K:SV->St->VC}(g:Good B.eT X (aA O st loc w))(hO:eR O w)(ha:cP B.eT (aA O st loc w) XF vs)
  {ν:List Nat}{a:CD args}{x:PD aM}(hnd:nodupB ν=true)(hga:lT false st.aF aM ν args XF=some a)(hx:eC false st.aF aM ν aM ν=some x)
  (hp1:∀p∈me aM x args XF,p)(hp2:∀p∈iO aM x st.aF aM ν,p)(hpre:pre a x)(hK:(wR a x ν st K alts).holds)
  (hcall:gH args a->∀(O':aH) (loc0:Nat->Loc),Good B.eT X (aA O' (kz aM args a x) loc0 w)->eR O' w->cP B.eT (aA O' (kz aM args a x) loc0 w) (wF (iu aM x (upto 0 aM.length)) args a) vs->vs.length=args.length->
   Calls P f vs.toArray w fun e w'=>∃rs us' st' locE,e=.returned (uZ us')/\(sL a x rs st' alts).holds/\cP B.eT (aA O' st' locE w') rs us'/\Good B.eT X (aA O' st' locE w')/\Tr (aA O' (kz aM args a x) loc0 w) (aA O' st' locE w')) :
  Calls P f vs.toArray w fun e w'=>∃v sv st' loc',e=.returned v/\(K sv st').holds/\st'.env=st.env/\Good B.eT X (aA O st' loc' w')/\
   Tr (aA O st loc w) (aA O st' loc' w')/\dK B.eT (aA O st' loc' w') sv v:=by
 have hvals:=D3 g hx hga ha hp1;have hobsl:=pj hx
 let us:=upto 0 aM.length
 have hul:ν.length=us.length:=by rw[uR];exact hobsl.symm
 let O':aH:=fun b off=>O b off\/∃n oc,look st.aF n=some oc/\n∉ν/\b∈(loc n).bs/\oc.lo<=off
 let st0:=kz aM args a x
 have hOin':eR O' w:=by
  rintro b off (h|⟨n,oc,h1,_,h2,_⟩)
  ·exact hO b off h
  ·exact(g.obj n oc h1).2.inside b h2
 have hlo:∀n∈ν,∀oc,look st.aF n=some oc->sG aM=true->oc.lo=0:=by
  intro n hn oc h1 h2;obtain⟨o,oc',y,k1,k2,k3⟩:=mu hx hn;rw[h1]at k2;cases k2;have:=(lJ k3 (fun _ =>.any)).2.2.2 (fun t=>Eh h2 k1) rfl;cases oc <;> first|rfl|exact(this _ _ rfl).elim
 have hν:∀n∈ν,∃oc,look st.aF n=some oc:=fun n hn=>let⟨_,oc,_,_,k,_⟩:=mu hx hn;⟨oc,k⟩
 let loc0:=fF us (ν.map loc) loc
 have hf0:∀k oc,look st0.aF k=some oc->∃(i n:Nat) (o:Ob) (y:OD o) (oc0:OC),ν[i]?=some n/\us[i]?=some k/\aM[i]?=some o/\look st.aF n=some oc0/\jS false st.aF aM ν o oc0=some y/\oc=qU (iu aM x us) o y/\loc0 k=loc n:=by
  intro k oc hk;obtain⟨i,n,o,y,oc0,k1,k2,k3,k4,k5,k6,_⟩:=ri hx (rh (X:=X) g hx hx hp2) hul hk;exact⟨i,n,o,y,oc0,k1,k2,k3,k4,k5,k6,kJ (kK _ _) k2 (by simp[k1])⟩
 have hA0:∀b o,(aA O' st0 loc0 w).A b o->(aA O st loc w).A b o:=by
  rintro b off ((h|⟨n,oc,h1,_,h2,h3⟩)|⟨k,oc,h1,h2,h3⟩)
  ·exact .inl h
  ·exact .inr ⟨n,oc,h1,h2,h3⟩
  ·obtain⟨i,n,o,y,oc0,_,_,_,k4,k5,k6,k7⟩:=hf0 k oc h1
   refine .inr ⟨n,oc0,k4,by simp only[aA]at h2;rw[k7]at h2;exact h2,?_⟩;rcases De (f:=iu aM x us) k5 with e|e
   ·rw[<-e,<-k6];exact h3
   ·cases e
 have hown0:∀b,(aA O' st0 loc0 w).owns b->∃n∈ν,b∈(loc n).bs:=by
  rintro b ⟨k,oc,h1,h2⟩;obtain⟨i,n,o,y,oc0,k1,_,_,_,_,_,k7⟩:=hf0 k oc h1;exact⟨n,br k1,by simp only[aA]at h2;rw[k7]at h2;exact h2⟩
 obtain⟨g0,laid0⟩:=Mk (X:=X) g hx hp2 hnd (O2:=O') (ν2:=us) (rest:=[]) (locR:=loc) (st2:=st0) (kK _ _) hul
  (by simp[st0,kz,us]) (fun n hn=>by have:=rU hn;simp[st0,kz];omega)
  (fun n hn b hb off=>by
   obtain⟨oc,k⟩:=hν n hn;rintro(h|⟨m,oc',h1,h2,h3,_⟩)
   ·exact g.out n oc b off k hb h
   ·exact h2 (by rw[<-g.apart n m oc oc' b k h1 hb h3];exact hn))
  (fun n hn b hb m oc h=>by simp[look]at h) (fun m oc h=>by simp[look]at h) (fun m m' oc oc' b h=>by simp[look]at h) (fun m oc b off h=>by simp[look]at h) (.inr hA0)
  (fun b hb h=>by
   obtain⟨n,hn,hbn⟩:=hown0 b h;obtain⟨oc,k⟩:=hν n hn;exact g.kU.2 b hb ⟨n,oc,k,hbn⟩)
 have hargs:cP B.eT (aA O' st0 loc0 w) (wF (iu aM x us) args a) vs:=GZ (S:=aA O st loc w) (S':=aA O' st0 loc0 w) rfl (fun k v hk=>BO laid0 hk) (.inr hA0) hvals;have hcalls:=hcall (yl hvals) O' loc0 g0 hOin' hargs (u6 hvals);refine hcalls.mono ?_;rintro e w' ⟨rs,us',st',locE,he,hk,hr,gE',trE'⟩;obtain⟨al,hal,ν',hnd',hkept,hcv,hokal,hret,hout,hc1,hc2⟩:=Ei hk;obtain⟨tF,gE,_,kF⟩:=u7 al.res rs gE';generalize hst2:(kv al.res st' rs).2=st2 at*;generalize hrs2:(kv al.res st' rs).1=rs2 at*;have trE:=trE'.trans tF;have hrE:=kF us' hr;have hKal:=B0 hK al hal;unfold Gb at hKal;split at hKal
 case h_2=>exact hKal.elim
 rename_i hn1;simp only[af]at hn1;obtain⟨hnd1,hbel⟩:=hn1;have hKal:=hKal hokal;generalize hν1:mE aM al.bN ν st.next=ν1 at*;have hl1:ν'.length=ν1.length:=by rw[<-hν1,pZ];exact(pj hout).symm
 generalize hst1:({env:=st.env,aF:=lS (iu al.bN (al.out a x) ν1) al.bN (al.out a x) ν1++qH st.aF ν,next:=st.next+al.bN.length}:St)=st1 at hKal;have h1env:st1.env=st.env:=by rw[<-hst1]
 have h1objs:st1.aF=lS (iu al.bN (al.out a x) ν1) al.bN (al.out a x) ν1++qH st.aF ν:=by rw[<-hst1]
 have h1next:st1.next=st.next+al.bN.length:=by rw[<-hst1]
 let loc1:=fF ν1 (ν'.map locE) loc
 have hf1:∀m oc,look st1.aF m=some oc->(∃(i n:Nat) (o:Ob) (y:OD o) (oc0:OC),ν'[i]?=some n/\ν1[i]?=some m/\al.bN[i]?=some o/\look st2.aF n=some oc0/\jS al.cv st2.aF al.bN ν' o oc0=some y/\
   oc=qU (iu al.bN (al.out a x) ν1) o y/\loc1 m=locE n)\/(m∉ν1/\m∉ν/\look st.aF m=some oc/\loc1 m=loc m):=by
  intro m oc hm;rw[h1objs,eL]at hm;split at hm
  ·rename_i oc' hm'
   cases hm;obtain⟨i,n,o,y,oc0,k1,k2,k3,k4,k5,k6,_⟩:=ri hout (rh (X:=X) gE hout hout hc2) hl1 hm';exact .inl ⟨i,n,o,y,oc0,k1,k2,k3,k4,k5,k6,kJ hnd1 k2 (by simp[k1])⟩
  ·rename_i hm'
   have hnin:m∉ν1:=fun hmem=>by
    obtain⟨oc1,h2⟩:=qC (f:=iu al.bN (al.out a x) ν1) (x:=al.out a x) (by rw[<-hν1,pZ]) hmem;rw[h2]at hm';cases hm'
   rw[mv]at hm;split at hm
   ·cases hm
   ·rename_i hmn
    exact .inr ⟨hnin,hmn,hm,oU hnin⟩
 have hownE:∀n∈ν',∀b∈(locE n).bs,(aA O' st2 locE w').owns b:=by
  intro n hn b hb;obtain⟨_,oc,_,_,k,_⟩:=mu hout hn;exact⟨n,oc,k,hb⟩
 have hblk:∀m oc,look st.aF m=some oc->m∉ν->∀b∈(loc m).bs,¬(aA O' st0 loc0 w).owns b:=by
  intro m oc h1 h2 b hb' ho;obtain⟨n,hn,hbn⟩:=hown0 b ho;obtain⟨oc',k⟩:=hν n hn;have:=g.apart n m oc' oc b k h1 hbn hb';exact h2 (by rw[<-this];exact hn)
 have hA1:al.cv=false->∀b o,(aA O st1 loc1 w').A b o->(aA O' st2 locE w').A b o:=by
  rintro hcv0 b off (h|⟨m,oc,h1,h2,h3⟩)
  ·exact .inl (.inl h)
  ·rcases hf1 m oc h1 with⟨i,n,o,y,oc0,k1,k2,k3,k4,k5,k6,k7⟩|⟨k1,k2,k3,k4⟩
   ·refine .inr ⟨n,oc0,k4,by simp only[aA]at h2;rw[k7]at h2;exact h2,?_⟩
    rcases De (f:=iu al.bN (al.out a x) ν1) k5 with e|e
    ·rw[<-e,<-k6];exact h3
    ·rw[hcv0]at e;cases e
   ·exact .inl (.inr ⟨m,oc,k3,k2,by simp only[aA]at h2;rw[k4]at h2;exact h2,h3⟩)
 have hkeep:∀(m i:Nat),ν1[i]?=some m->m<st.next->∃o o',aM[i]?=some o/\al.bN[i]?=some o'/\lf o o'=true/\ν[i]?=some m:=by
  intro m i h1 h2;rw[<-hν1]at h1;rcases qI h1 with h3|h3
  ·exact h3
  ·omega
 have hT:Tr (aA O st loc w) (aA O st1 loc1 w'):={
  O:=rfl
  next:=by simp only[aA];omega
  os:=trE.os
  output:=trE.output
  size:=trE.size
  own:=by
   rintro b ⟨m,oc,h1,h2⟩;rcases hf1 m oc h1 with⟨i,n,o,y,oc0,k1,k2,k3,k4,k5,k6,k7⟩|⟨k1,k2,k3,k4⟩
   ·simp only[aA]at h2;rw[k7]at h2
    rcases trE.own b (hownE n (br k1) b h2)with h3|h3
    ·obtain⟨n',hn',hb'⟩:=hown0 b h3
     obtain⟨oc',k⟩:=hν n' hn';exact .inl ⟨n',oc',k,hb'⟩
    ·exact .inr h3
   ·simp only[aA]at h2;rw[k4]at h2;exact .inl ⟨m,oc,k3,h2⟩
  cell:=by
   intro b off v hna hcell;obtain⟨h1,h2⟩:=trE.cell b off v (fun h=>hna (hA0 b off h)) hcell;refine⟨h1,fun h3 =>?_⟩;rcases hcv with hcv|⟨hnt,_,_⟩
   ·exact h2 (hA1 hcv b off h3)
   ·rcases h3 with h3|⟨m,oc,h3,h4,h5⟩
    ·exact hna (.inl h3)
    ·rcases hf1 m oc h3 with⟨i,n,o,y,oc0,k1,k2,k3,k4,k5,k6,k7⟩|⟨k1,k2,k3,k4⟩
     ·simp only[aA]at h4;rw[k7]at h4
      rcases trE.own b (hownE n (br k1) b h4)with h6|h6
      ·obtain⟨n',hn',hb'⟩:=hown0 b h6
       obtain⟨oc',k⟩:=hν n' hn';exact hna (.inr ⟨n',oc',k,hb',by rw[hlo n' hn' oc' k hnt];exact ar _⟩)
      ·have:=ej _ _ hcell
       simp only[aA]at this h6;omega
     ·simp only[aA]at h4;rw[k4]at h4;exact hna (.inr ⟨m,oc,k3,h4,h5⟩)
  block:=fun b hb' ho=>trE.block b hb' fun h=>ho (by
   obtain⟨n,hn,hbn⟩:=hown0 b h;obtain⟨oc,k⟩:=hν n hn;exact⟨n,oc,k,hbn⟩)
  loc:=by
   intro m hm hfix;by_cases hin:m∈ν1
   ·obtain⟨i,hi⟩:=List.getElem?_of_mem hin
    obtain⟨o,o',e1,e2,e3,e4⟩:=hkeep m i hi hm;have hiE:i<ν'.length:=by rw[hl1];exact bF hi
    have hn':ν'[i]?=some ν'[i]:=List.getElem?_eq_getElem hiE;have hni:=BZ hkept e1 e2 e3 hn';rw[dh]at hni;have e5:loc1 m=locE i:=by
     have:=kJ (d:=loc) hnd1 hi (ls:=ν'.map locE) (l:=locE i) (by simp[hn',hni]);exact this
    have hui:us[i]?=some i:=by have:=AA aM.length 0 i (bF e1);simpa using this
    have e6:loc0 i=loc m:=kJ (kK _ _) hui (by simp[e4]);have e7:=trE.loc i (show i<st0.next by simp[st0,kz];exact bF e1) (fun t ys hy=>by
     obtain⟨j,n,o2,y,oc0,k1,k2,k3,k4,k5,k6,k7⟩:=hf0 i _ hy;have hj:j=i:=qD (kK _ _) k2 hui;subst hj;rw[e1]at k3;cases k3;cases o <;> simp[qU]at k6;cases o' <;> simp[lf]at e3)
    show(loc1 m).v=(loc m).v/\(_->loc1 m=loc m);rw[e5,<-e6];refine⟨e7.1,fun hr=>e7.2 fun t z hy =>?_⟩;obtain⟨j,n,o2,y,oc0,k1,k2,k3,k4,k5,k6,k7⟩:=hf0 i _ hy;have hj:j=i:=qD (kK _ _) k2 hui;subst hj;rw[e4]at k1;cases k1;cases o2 <;> simp[qU]at k6;obtain⟨rfl,rfl,_⟩:=k6;obtain⟨z',rfl⟩:=(lJ k5 (fun _ =>.any)).2.1 _ _ rfl;exact hr _ _ k4
   ·exact ot (oU hin)
  kind:=by
   intro m oc' hm hob;rcases hf1 m oc' hob with⟨i,n,o,y,oc0,k1,k2,k3,k4,k5,k6,k7⟩|⟨k1,k2,k3,k4⟩
   ·obtain⟨o0,o',e1,e2,e3,e4⟩:=hkeep m i k2 hm
    rw[k3]at e2;cases e2;have hui:us[i]?=some i:=by have:=AA aM.length 0 i (bF e1);simpa using this
    obtain⟨oc2,h2⟩:=qC (f:=iu aM x us) (x:=x) (ms:=us) (by rw[uR]) (br hui);obtain⟨j,n2,o2,y2,oc3,j1,j2,j3,j4,j5,j6,j7⟩:=hf0 i oc2 (by simpa[st0,kz]using h2);have hj:j=i:=qD (kK _ _) j2 hui;subst hj;rw[e1]at j3;cases j3;rw[e4]at j1;cases j1;refine⟨oc3,j4,?_⟩;cases o0 <;> cases o <;> simp[lf]at e3
    ·subst e3
     obtain⟨cs,rfl⟩:=(lJ j5 (fun _ =>.any)).1 _ _ rfl;rw[k6];rfl
    ·rename_i kp t kp' t'
     cases kp <;> cases kp' <;> simp at e3;have e3:=Ty.eq_of_beq e3;subst e3;obtain⟨xs,rfl⟩:=(lJ j5 (fun _ =>.any)).2.2.1 _ _ rfl rfl;rw[k6];rfl
    ·obtain⟨e3,e4⟩:=e3
     have e4:=Ty.eq_of_beq e4;subst e3;subst e4;obtain⟨z,rfl⟩:=(lJ j5 (fun _ =>.any)).2.1 _ _ rfl;rw[k6];exact⟨rfl,rfl⟩
   ·refine⟨oc',k3,?_⟩
    cases oc' <;> simp[aX,aA,k4]}
 obtain⟨g1,laid1⟩:=Mk (X:=X) gE hout hc2 hnd' (O2:=O) (ν2:=ν1) (rest:=qH st.aF ν) (locR:=loc) (st2:=st1) hnd1 hl1 h1objs
  (fun n hn=>by rw[h1next];exact qW hbel hn)
  (fun n hn b hb' off h=>by
   obtain⟨_,oc,_,_,k,_⟩:=mu hout hn;exact gE.out n oc b off k hb' (.inl h))
  (fun n hn b hb' m oc h1 h2 h3=>by
   rw[mv]at h1;split at h1
   ·cases h1
   ·rename_i hmn
    rcases trE.own b (hownE n hn b hb')with h4|h4
    ·exact hblk m oc h1 hmn b h3 h4
    ·have:=(g.obj m oc h1).2.inside b h3
     simp only[aA]at this h4;omega)
  (fun m oc h1 h2=>by
   rw[mv]at h1;split at h1
   ·cases h1
   ·rename_i hmn
    obtain⟨k1,k2⟩:=g.obj m oc h1;refine⟨by rw[h1next];simp only[aA]at k1;omega,k2.tr hT fun b hb' =>?_⟩;exact trE.block b (k2.inside b hb') (hblk m oc h1 hmn b hb'))
  (fun m m' oc oc' b h1 h2 _ _ h3 h4=>by
   rw[mv]at h1 h2;split at h1
   ·cases h1
   ·split at h2
    ·cases h2
    ·exact g.apart m m' oc oc' b h1 h2 h3 h4)
  (fun m oc b off h1 _ h2=>by
   rw[mv]at h1;split at h1
   ·cases h1
   ·exact g.out m oc b off h1 h2)
  (by
   rcases hcv with hcv|⟨_,hcv,_⟩
   ·exact .inr (hA1 hcv)
   ·exact .inl hcv)
  (g.kU.tr hT).2
 have hres:=D3 gE hout hret hrE hc1;refine⟨_,_,st1,loc1,he,hKal,h1env,g1,hT,wQ (GZ (S:=aA O' st2 locE w') (S':=aA O st1 loc1 w') rfl (fun k v hk=>BO laid1 hk) ?_ hres)⟩;rcases hcv with hcv|⟨_,_,hcv⟩
 ·exact .inr (hA1 hcv)
 ·exact .inl hcv
def Sw{B:Cx}{Γ:List (FuncId×(Bool×aT))}(hok:bO P B X Γ){f:FuncId}{fn:Func}{c:Code}(hf:P.funcs[f]?=some fn)(hb:fn.body=some c)(hN:args.length<=fn.ntmps){anns:CD args->PD aM->dO}
  {pre:CD args->PD aM->Prop}{alts:List (Alt aM args)}(h:∀a x,gH args a->pre a x->(cR B Γ fn (anns a x) aM args alts a x).holds)
  {O:aH}{st:St}{loc:Nat->Loc}{w:World}{XF:List cO}{vs:List Value}{K:SV->St->VC}(g:Good B.eT X (aA O st loc w))(hO:eR O w)(ha:cP B.eT (aA O st loc w) XF vs)
  {ν:List Nat}{a:CD args}{x:PD aM}(hnd:nodupB ν=true)(hga:lT false st.aF aM ν args XF=some a)(hx:eC false st.aF aM ν aM ν=some x)
  (hp1:∀p∈me aM x args XF,p)(hp2:∀p∈iO aM x st.aF aM ν,p)(hpre:pre a x)(hK:(wR a x ν st K alts).holds) :
  Calls P f vs.toArray w fun e w'=>∃v sv st' loc',e=.returned v/\(K sv st').holds/\st'.env=st.env/\Good B.eT X (aA O st' loc' w')/\
   Tr (aA O st loc w) (aA O st' loc' w')/\dK B.eT (aA O st' loc' w') sv v:=by
 refine Ej (B:=B) (pre:=pre) g hO ha hnd hga hx hp1 hp2 hpre hK fun hwf O' loc0 g0 hOin' hargs hlen =>?_
 have hcode:codeOf fn=c:=by unfold codeOf;rw[hb];rfl
 have hvc:=h a x hwf hpre;unfold cR at hvc;rw[hcode]at hvc;exact tn (X:=X) (hok fn.ntmps) hf hb (by rfl) (anns a x) (O:=O') (loc:=loc0) (w:=w) (args:=vs.toArray) (st:=kz aM args a x)
  (by rw[di,hlen];exact hN) g0 hOin'
  (fun t sv ht=>by
   obtain⟨_,v,k1,k2⟩:=tp 0 hargs t sv ht;exact⟨v,by simpa using k1,k2⟩) hvc
def bE{B:Cx}{Γ:List (FuncId×(Bool×aT))}(hok:bO P B X Γ){f:FuncId}{fn:Func}(hf:P.funcs[f]?=some fn)(hg:po fn args.length=true)(anns:CD args->PD aM->dO)
  {pre:CD args->PD aM->Prop}{alts:List (Alt aM args)}(h:∀a x,gH args a->pre a x->(cR B Γ fn (anns a x) aM args alts a x).holds) :
  bX P B.eT X f false (aU aM args pre alts):=by
 simp only[po,af,cf]at hg;obtain⟨⟨h1,h2⟩,h3⟩:=hg;obtain⟨c,hc⟩:=dj.1 h1;refine⟨⟨fn,hf,by rw[hc];rfl,h2⟩,fun O st loc w XF vs K hK g hO ha =>?_⟩;unfold aU at hK;obtain⟨t1,g1,e1,k1⟩:=u7 args XF g;simp only at hK;split at hK
 case h_2=>exact hK.elim
 rename_i ν hν;split at hK
 case h_2=>exact hK.elim
 rename_i a x hnd hga hx;obtain⟨hp,hpre,hK⟩:=Ay hK;obtain⟨hp1,hp2⟩:=jh.1 hp;refine(Sw hok hf hc (ek h3) h g1 hO (k1 vs ha) hnd hga hx hp1 hp2 hpre hK).mono ?_;rintro e w' ⟨v,sv,st',loc',q1,q2,q3,q4,q5,q6⟩;exact⟨v,sv,st',loc',q1,q2,q3.trans e1,(fun hq=>by cases hq),q4,t1.trans q5,q6⟩
end
end Go.Vg

namespace Go.Vg
@[reducible] def aS:Ty:=.prod .str (.prod (.int .i64) (.prod .bool .unit))
@[reducible] def aY:Ty:=.prod (.int .i64) (.prod (.int .i64) .unit)
@[reducible] def bD:Ty:=.prod (.int .i64) (.prod (.int .i64) (.prod (.int .i64) (.prod .str (.prod .bool .unit))))
@[reducible] def aR:Ty:=.prod (.int .i64) (.prod (.int .i64) (.prod (.int .i64) .unit))
@[reducible] def aG:Ty:=.prod .str (.prod (.int .i64) (.prod (.int .i64) .unit))
@[reducible] def aB:Ty:=.prod (.slice .str) (.prod (.slice (.int .i64)) (.prod (.slice aS) (.prod (.slice bD) .unit)))
@[reducible] def aC:Ty:=.prod .str (.prod (.slice aG) (.prod (.slice aR) .unit))
@[reducible] def dC:Ty:=.prod .str (.prod .str (.prod .str (.prod (.int .i64) (.prod (.int .u64) (.prod aC .unit)))))
@[reducible] def dH:Ty:=.prod .str (.prod (.int .i64) (.prod (.slice (.int .i64)) .unit))
@[reducible] def gR:Ty:=.prod (.int .i64) (.prod .str .unit)
@[reducible] def Uv:Ty:=.prod (.slice .str) (.prod (.slice .str) (.prod (.slice gR) (.prod (.int .i64) (.prod .bool .unit))))
theorem bl :
  (∀(p:Prop) [Decidable p],(decide p=true)=p)/\(∀(p:Prop) [Decidable p],(decide p=false)=¬p)/\
  (∀(α:Type) [BEq α] [LawfulBEq α] (a b:α),((a == b)=true)=(a=b))/\(∀(α:Type) [BEq α] [LawfulBEq α] (a b:α),((a == b)=false)=¬a=b)/\
  (∀(α:Type) [BEq α] [LawfulBEq α] (a b:α),((a != b)=true)=¬a=b)/\(∀(α:Type) [BEq α] [LawfulBEq α] (a b:α),((a != b)=false)=(a=b))/\
  (∀b:Bool,((!b)=true)=(b=false))/\(∀b:Bool,((!b)=false)=(b=true))/\(∀b:Bool,(¬b=true)=(b=false))/\(∀b:Bool,(¬b=false)=(b=true))/\
  (∀a b:Bool,((a&&b)=true)=(a=true/\b=true))/\(∀a b:Bool,((a || b)=true)=(a=true\/b=true))/\
  (∀a b:Bool,((a&&b)=false)=(a=false\/b=false))/\(∀a b:Bool,((a || b)=false)=(a=false/\b=false))/\
  (∀a b:Int,(¬a<b)=(b<=a))/\(∀a b:Int,(¬a<=b)=(b<a)):=by
 refine⟨?_,?_,?_,?_,?_,?_,?_,?_,?_,?_,?_,?_,?_,?_,?_,?_⟩ <;> intros <;> first|(simp;done)|(rename_i a b;cases a <;> cases b <;> simp)
end Go.Vg

namespace Go.Vg
open Go.RowKit
def Sx{w:World}{b i:Nat}{c:Array Value}{T:TypeId}{v:Value}(hb:w.heap[b]?=some (.cells c T (0,0))):(w.setCell ⟨b,i,none⟩ v).heap[b]?=some (.cells (c.setIfInBounds i v) T (0,0)):=by
 simp[World.setCell,Array.getElem?_modify,hb]
def U6{P:Program}{w:World}{t u ty e:TypeId}{i:TypeInfo}(ht:P.underlying t=some (.slice e))(hu:P.underlying u=some .string)(hi:P.info? e=some i)(hz:i.zero=some (.int .u8 0))
  (hsize:i.size=1)(hby:i.bytes=1){v:Value}{xs:List Value}(hown:w.ownsRow 0 e 1 v xs.length xs)(hcap:∀a n c,v=.slice (some a) n c->0<c)(s:ByteArray)(hlen:xs.length+s.size<=140737488355328) :
  ∃v' w',(en #[t,u] ty #[v,.string s]).run P w=.ok v' w'/\w'.ownsRow 0 e 1 v' (xs.length+s.size) (xs++ct s)/\w.grownBy w' v.ownBlock/\(∀a n c,v'=.slice (some a) n c->0<c)/\
   (∀g,v'.ownBlock=some g->v.ownBlock=some g\/w.heap.size<=g):=by
 rcases hown.2 with⟨rfl,h0⟩|⟨g,cap,cur,rfl,hbg,hg,hnc,hcm,hcs,htake⟩
 ·have hown':w.ownsRow w.heap.size e 1 (.slice none 0 0) xs.length xs:=⟨hown.1,.inl ⟨rfl,h0⟩⟩
  obtain⟨v',w',h1,h2,h3,h4⟩:=Lib.run_append_own_string (P:=P) w w.heap.size t u ty e i ht hu hi hz hsize hby _ _ _ hown' s (by unfold maxLen;omega) hlen (ak _);rcases h2.2 with⟨rfl,h6⟩|⟨g,cap,cur,rfl,k1,k2,k3,k4⟩
  ·exact⟨_,w',h1,⟨h2.1,.inl ⟨rfl,h6⟩⟩,h3,(fun a n c hh=>by cases hh),(fun g hh=>by cases hh)⟩
  ·refine⟨_,w',h1,⟨h2.1,.inr ⟨g,cap,cur,rfl,ar _,k2,k3,k4⟩⟩,h3,fun a n c hh =>?_,fun g' hh=>by cases hh;exact .inr k1⟩
   cases hh;by_cases hs:s.size=0
   ·have:=h4.2 ⟨rfl,hs⟩;cases this
   ·omega
 ·have hc0:=hcap _ _ _ rfl
  by_cases hroom:xs.length+s.size<=cap
  ·obtain⟨w',h1,h2,h3⟩:=Lib.run_append_fits_string (P:=P) w 0 t u ty e i ht hu hi hsize _ _ _ _ hown s hc0 hroom
   exact⟨_,w',h1,h2,h3,(fun a n c hh=>by cases hh;exact hc0),(fun g' hh =>.inl hh)⟩
  ·have holds:∀j u,xs[j]?=some u->w.cell? ((⟨g,0,none⟩:Addr).add j)=some u:=hown.cells (g:=g) rfl
   have hr:=Lib.run_append_grow_string (P:=P) w t u ty e i (.int .u8 0) ht hu hi hz ⟨g,0,none⟩ xs.length cap xs (by rw[hsize];simp) holds s (by omega) (by omega) (by rw[hby];exact growslice_fits (by omega) (by omega));have hge:=grownCap_ge w (xs.length+s.size) cap e;have hcm':grownCap w (xs.length+s.size) cap e<=maxLen:=grownCap_le_maxLen w (xs.length+s.size) cap e (by unfold maxLen;omega);refine⟨_,_,hr,⟨by simp[dk],.inr ⟨w.heap.size,_,_,rfl,ar _,heap_alloc_new w.drew _,hge,hcm',?_,?_⟩⟩,⟨rfl,rfl,rfl,by simp,fun k hk _=>Go.Deep.blk_alloc_lt w.drew _ k hk⟩,(fun a n c hh=>by cases hh;omega),(fun g' hh=>by cases hh;exact .inr (ak _))⟩
   ·have hz1:(bt dm 0).cells.size=1:=rfl
    simp only[Array.size_append,di,size_zeroCells,hz1,dk];omega
   ·simp only[Array.toList_append,cu]
    rw[<-cu];have:(xs++ct s).length=(xs.length+s.size)*1:=by simp[dk]
    rw[<-this];exact List.take_left
def yG{P:Program}{w w':World}{ops:Array Oper}{rest:List Oper}{o:Oper}{a:Act}{Q:Exit->Act->World->Prop}(hgd:o.guard=none)(sl x:Operand)(t u:TypeId)
  (ho:o.op=.call {callee:=.builtin .append,args:=#[sl,x],argTypes:=#[t,u]}){v v' y:Value}(hs:a.eval sl=v)(hx:a.eval x=y)
  (hr:(en #[t,u] o.type #[v,y]).run P w=.ok v' w')(h:wpList P ops Q rest (a.put o.dst v') w'):wpList P ops Q (o :: rest) a w:=by
 refine wpList_plain hgd fun K hK =>?_
 unfold Oper.wp execOp;simp only[ho,resolve,invoke,builtin,Sem.run_bind,Sem.run_pure,eo,List.map_toArray,aj,List.map_nil,hs,hx,hr];exact hK _ _ h
structure Kept (b:Nat) (v:Value) (w w':World):Prop where
 os:w'.os=w.os
 output:w'.output=w.output
 size:w.heap.size<=w'.heap.size
 block:∀k,k<w.heap.size->k≠b->v.ownBlock≠some k->w'.heap[k]?=w.heap[k]?
structure My (v:Value) (w w':World):Prop where
 os:w'.os=w.os
 output:w'.output=w.output
 size:w'.heap.size=w.heap.size
 block:∀k,v.ownBlock≠some k->w'.heap[k]?=w.heap[k]?
def JH{w:World}{g n c:Nat}{m:Nat}:My (.slice (some ⟨g,0,none⟩) n c) w (w.drew.freeze ⟨g,0,none⟩ m):=by
 unfold World.freeze;split
 ·exact⟨rfl,rfl,rfl,fun _ _=>rfl⟩
 ·refine⟨rfl,rfl,by simp,fun k hk =>?_⟩
  have:k≠g:=fun e=>hk (by rw[e];rfl)
  simp only[Array.getElem?_modify];rw[if_neg (fun e=>this e.symm)];rfl
def rY(T e:Nat):aT:=fun args st K=>
 match args with
 |[.one (.eQ n),.one (.d .str s)]=>match look st.aF n with
  |some (.ext 2 t x)=>match h:Ty.beq t ku with
   |true =>.and ((cJ h x).2.1=(T:Int)/\(cJ h x).2.2.1=(e:Int)/\(cJ h x).1.length+s.length<=140737488355328)
     (K (.mN [.one (.d (.int .i64) (s.length:Int)),.one (.d .err .nil)]) (setObj st n (.ext 2 ku ((cJ h x).1++bI s,(T:Int),(e:Int),()))))
   |false =>.ff
  |_ =>.ff
 |_ =>.ff
def qJ(T e:Nat):aT:=fun args st K=>
 match args with
 |[.one (.eQ n)]=>match look st.aF n with
  |some (.ext 2 t x)=>match h:Ty.beq t ku with
   |true =>.and ((cJ h x).2.1=(T:Int)/\(cJ h x).2.2.1=(e:Int)) (K (.s (.one (.d .str (bytesOf (cJ h x).1)))) (aZ st n))
   |false =>.ff
  |_ =>.ff
 |_ =>.ff
def wS(T e:Nat):aT:=fun args st K=>
 match args with
 |[.one (.eQ n)]=>match look st.aF n with
  |some (.ext 2 t x)=>match h:Ty.beq t ku with
   |true =>.and ((cJ h x).2.1=(T:Int)/\(cJ h x).2.2.1=(e:Int)) (K (.s (.one (.d (.int .i64) ((cJ h x).1.length:Int)))) st)
   |false =>.ff
  |_ =>.ff
 |_ =>.ff
section
variable{P:Program}{eT:TypeId}{X:Ext}{f:FuncId}
def G9{O:aH}{st:St}{loc:Nat->Loc}{w:World}(g:Good eT X (aA O st loc w)){n:Nat}{x:D ku}(hob:look st.aF n=some (.ext 2 ku x)){v:Value}(hv:CR eT (aA O st loc w) (.eQ n) v) :
  ∃b p u,v=.pointer (some ⟨b,0,none⟩)/\V7 x (loc n) w b p u:=by
 obtain⟨h0,b,p,u,hD⟩:=X.On.1 (g.obj n _ hob).2;exact⟨b,p,u,(hv.2 _ hob rfl).trans hD.lv,hD⟩
def u9(s:List UInt8):bytesOf (bI s)=s:=by
 induction s with
 |nil=>rfl
 |cons c r ih=>
  simp only[bytesOf,bI,aj,dn]at ih ⊢;rw[ih];simp
def Mz{xs:List Int}(h:∀y∈xs,0<=(y:Int)/\(y:Int)<=255):bI (bytesOf xs)=xs:=by
 induction xs with
 |nil=>rfl
 |cons y r ih=>
  have h1:=h y (by simp);have h2:=ih fun z hz=>h z (by simp[hz])
  simp only[bI,bytesOf,dn,aj]at h2 ⊢;rw[h2];congr 1;simp only[ep];omega
def MA(s:List UInt8):∀y∈bI s,0<=(y:Int)/\(y:Int)<=255:=by
 intro y hy;simp only[bI,bf]at hy;obtain⟨c,_,rfl⟩:=hy;have:=c.toNat_lt;omega
def Sy{xs:List Int}(h:∀y∈xs,0<=(y:Int)/\(y:Int)<=255):xs.map (bt .u8)=(bytesOf xs).map fun c=>bt .u8 c.toNat:=by
 conv=>lhs;rw[<-Mz h]
 simp[bI]
def B1{T e:Nat}(hfn:∃fn,P.funcs[f]?=some fn/\fn.body.isNone=false/\(fn.name == "runtime.NumGoroutine")=false)
  (H:∀(b:Nat) (p v:Value) (xs:List Value) (s:ByteArray) (w:World),w.heap[b]?=some (.cells #[p,v] T (0,0))->(p=.pointer none\/p=.pointer (some ⟨b,0,none⟩))->w.ownsRow 0 e 1 v xs.length xs->v.ownBlock≠some b->
   (∀a n c,v=.slice (some a) n c->0<c)->xs.length+s.size<=140737488355328->
   Calls P f #[.pointer (some ⟨b,0,none⟩),.string s] w fun r w'=>r=.returned (.tuple #[.int .i64 s.size,.nilIface])/\
    ∃v',w'.heap[b]?=some (.cells #[.pointer (some ⟨b,0,none⟩),v'] T (0,0))/\w'.ownsRow 0 e 1 v' (xs.length+s.size) (xs++ct s)/\v'.ownBlock≠some b/\Kept b v w w'/\
     (∀a n c,v'=.slice (some a) n c->0<c)/\(∀g,v'.ownBlock=some g->v.ownBlock=some g\/w.heap.size<=g)) :
  bX P eT X f false (rY T e):=by
 refine⟨hfn,fun O st loc w args vs K hs g hO ha =>?_⟩;unfold rY at hs;split at hs
 case h_2=>exact hs.elim
 rename_i n s;split at hs
 case h_2=>exact hs.elim
 rename_i t x hob;split at hs
 case h_2=>exact hs.elim
 rename_i ht;have ht':=Ty.eq_of_beq ht;subst ht';rw[jQ]at hs;obtain⟨⟨hT,he,hlen⟩,hs⟩:=hs
 match vs,ha with
 |[v0,v1],.cons h0 (.cons h1 .nil)=>
 obtain⟨b,p,u,rfl,hD⟩:=G9 g hob h0;obtain⟨rfl,hsl⟩:=jD.1 (show CR eT _ (.d .str s) v1 from h1);have hsz:(⟨s.toArray⟩:ByteArray).size=s.length:=by simp[ByteArray.size]
 have hT':x.2.1.toNat=T:=by rw[hT];rfl
 have he':x.2.2.1.toNat=e:=by rw[he];rfl
 have hheap:=hD.heap;have hrow:=hD.row;rw[hT']at hheap;rw[he']at hrow;refine(H b p u (x.1.map (bt .u8)) ⟨s.toArray⟩ w hheap hD.ptr (by simpa using hrow) hD.ne hD.cap (by simpa[hsz]using hlen)).mono ?_;rintro r w' ⟨rfl,v',k1,k2,k3,k4,k5,k6⟩;have hlt:b<w.heap.size:=(Array.getElem?_eq_some_iff.1 hheap).1;obtain⟨tr1,g1⟩:=pO (S:=aA O st loc w) (S':=aA O (setObj st n (.ext 2 ku (x.1++bI s,(T:Int),(e:Int),()))) (bU loc n ⟨.pointer (some ⟨b,0,none⟩),b :: v'.ownBlock.toList⟩) w') (n:=n)
  (oc:=.ext 2 ku x) (oc':=.ext 2 ku (x.1++bI s,(T:Int),(e:Int),())) (l':=⟨.pointer (some ⟨b,0,none⟩),b :: v'.ownBlock.toList⟩) g rfl hO hob
  (fun m=>oJ st n m _) (fun _=>rfl) rfl (fun _=>⟨hD.lv.symm,fun h=>(h _ _ rfl).elim⟩) ⟨rfl,rfl⟩ k4.os k4.output k4.size
  (fun b' h1 h2=>k4.block b' h1 (fun e=>h2 (by simp only[aA];rw[hD.bs,e];simp)) (fun e=>h2 (by simp only[aA];rw[hD.bs,e];simp)))
  (fun b' o v _ ho=>by simp[OC.lo]at ho)
  (fun b' hb'=>by
   rcases ag.1 hb' with rfl|hb'
   ·exact .inl ⟨by simp only[aA];rw[hD.bs];simp,ak _⟩
   ·have hb':v'.ownBlock=some b':=by simpa using hb'
    rcases k6 b' hb' with h|h
    ·exact .inl ⟨by simp only[aA];rw[hD.bs,h];simp,ak _⟩
    ·exact .inr h)
 have g1:=g1 (X.On.2 ⟨rfl,b,.pointer (some ⟨b,0,none⟩),v',rfl,.inr rfl,k1,by
  have e1:x.1.map (bt .u8)++ct ⟨s.toArray⟩=(x.1++bI s).map (bt .u8):=by rw[yN,List.map_append]
  have e2:(x.1.map (bt .u8)).length+(⟨s.toArray⟩:ByteArray).size=(x.1++bI s).length:=by simp[hsz,bI]
  rw[e1,e2]at k2;exact k2,rfl,k3,(fun y hy=>by
   rcases au.1 hy with h|h
   ·exact hD.u8 y h
   ·exact MA s y h),k5⟩)
 refine⟨_,_,_,_,rfl,hs,rfl,(fun hh=>by cases hh),g1,tr1,⟨[.int .i64 (⟨s.toArray⟩:ByteArray).size,.nilIface],rfl,.cons ?_ (.cons ?_ .nil)⟩⟩
 ·refine cQ.2 ⟨by rw[hsz],?_⟩
  simp only[dp,dq,dr,dt];unfold aL at hsl;constructor <;> simp <;> omega
 ·exact nt.2 rfl
def MB{O:aH}{st:St}{loc:Nat->Loc}{w w':World}(g:Good eT X (aA O st loc w)){n:Nat}{oc0:OC}(hn:look st.aF n=some oc0)(h0:oc0.lo=0)
  (hos:w'.os=w.os)(hout:w'.output=w.output)(hsz:w.heap.size<=w'.heap.size)(hb:∀b,b<w.heap.size->b∉(loc n).bs->w'.heap[b]?=w.heap[b]?) :
  Tr (aA O st loc w) (aA O (aZ st n) loc w')/\Good eT X (aA O (aZ st n) loc w'):=by
 have hob:∀m oc,look (aZ st n).aF m=some oc->m≠n/\look st.aF m=some oc:=by
  intro m oc h;simp only[aZ]at h;rw[lR]at h;split at h
  ·cases h
  ·rename_i hne;exact⟨fun e=>hne e.symm,h⟩
 have hA:∀b o,(aA O (aZ st n) loc w').A b o->(aA O st loc w).A b o:=by
  rintro b o (h|⟨m,oc,h1,h2⟩)
  ·exact .inl h
  ·exact .inr ⟨m,oc,(hob _ _ h1).2,h2⟩
 have ht:Tr (aA O st loc w) (aA O (aZ st n) loc w'):={
  O:=rfl
  next:=ak _
  os:=hos
  output:=hout
  size:=hsz
  own:=fun b h=>by obtain⟨m,oc,h1,h2⟩:=h;exact .inl ⟨m,oc,(hob _ _ h1).2,h2⟩
  cell:=fun b o v h1 h2=>by
   have hlt:=ej w _ h2;refine⟨?_,fun h=>h1 (hA b o h)⟩;show w'.cell? _=_;rw[World.cell?_of_block (w:=w) (w':=w') (a:=⟨b,o,none⟩) (hb b hlt fun hm=>h1 (.inr ⟨n,oc0,hn,hm,by rw[h0];exact ar _⟩))];exact h2
  block:=fun b h1 h2=>hb b h1 fun hm=>h2 ⟨n,oc0,hn,hm⟩
  loc:=fun _ _ _=>ot rfl
  kind:=fun m oc _ h=>⟨oc,(hob _ _ h).2,by cases oc <;> simp[aX,aA]⟩}
 refine⟨ht,⟨fun m oc h =>?_,fun m1 m2 oc1 oc2 b h1 h2 h3 h4 =>?_,fun m oc b off h1 h2 =>?_,g.kU.tr ht⟩⟩
 ·obtain⟨hne,h⟩:=hob _ _ h
  obtain⟨h1,h2⟩:=g.obj m oc h;exact⟨h1,h2.tr ht fun b hbm=>hb b (h2.inside b hbm) fun hbn=>hne (g.apart m n oc oc0 b h hn hbm hbn)⟩
 ·exact g.apart m1 m2 oc1 oc2 b (hob _ _ h1).2 (hob _ _ h2).2 h3 h4
 ·exact g.out m oc b off (hob _ _ h1).2 h2
def AD{T e:Nat}(hfn:∃fn,P.funcs[f]?=some fn/\fn.body.isNone=false/\(fn.name == "runtime.NumGoroutine")=false)
  (H:∀(b:Nat) (p v:Value) (l:List UInt8) (w:World),w.heap[b]?=some (.cells #[p,v] T (0,0))->w.ownsRow 0 e 1 v l.length (l.map fun c=>bt .u8 c.toNat)->(∀a n c,v=.slice (some a) n c->0<c)->
   Calls P f #[.pointer (some ⟨b,0,none⟩)] w fun r w'=>r=.returned (.string ⟨l.toArray⟩)/\My v w w') :
  bX P eT X f false (qJ T e):=by
 refine⟨hfn,fun O st loc w args vs K hs g hO ha =>?_⟩;unfold qJ at hs;split at hs
 case h_2=>exact hs.elim
 rename_i n;split at hs
 case h_2=>exact hs.elim
 rename_i t x hob;split at hs
 case h_2=>exact hs.elim
 rename_i ht;have ht':=Ty.eq_of_beq ht;subst ht';rw[jQ]at hs;obtain⟨⟨hT,he⟩,hs⟩:=hs
 match vs,ha with
 |[v0],.cons h0 .nil=>
 obtain⟨b,p,u,rfl,hD⟩:=G9 g hob h0;have hT':x.2.1.toNat=T:=by rw[hT];rfl
 have he':x.2.2.1.toNat=e:=by rw[he];rfl
 have hheap:=hD.heap;have hrow:=hD.row;rw[hT']at hheap;rw[he',Sy hD.u8,show x.1.length=(bytesOf x.1).length by simp[bytesOf]]at hrow;refine(H b p u (bytesOf x.1) w hheap hrow hD.cap).mono ?_;rintro r w' ⟨rfl,k⟩;obtain⟨tr1,g1⟩:=MB (w':=w') g hob rfl k.os k.output (by rw[k.size];exact ak _) (fun b' _ h2=>k.block b' fun e=>h2 (by rw[hD.bs,e];simp));refine⟨_,_,_,_,rfl,hs,rfl,(fun hh=>by cases hh),g1,tr1,?_⟩;refine(jD (eT:=eT) (S:=aA O (aZ st n) loc w')).2 ⟨rfl,?_⟩;rcases hrow.2 with⟨_,h⟩|⟨_,cap,_,_,_,_,h1,h2,_⟩
 ·rw[h];exact ar _
 ·unfold maxLen at h2;unfold aL;omega
def FT{T e:Nat}(hfn:∃fn,P.funcs[f]?=some fn/\fn.body.isNone=false/\(fn.name == "runtime.NumGoroutine")=false)
  (H:∀(b:Nat) (p q:Value) (a:Option Addr) (n c:Nat) (w:World),w.heap[b]?=some (.cells #[p,.slice a n c] T (0,0))->
   Calls P f #[.pointer (some ⟨b,0,none⟩)] w fun r w'=>r=.returned (.int .i64 n)/\w'=w) :
  bX P eT X f true (wS T e):=by
 refine⟨hfn,fun O st loc w args vs K hs g hO ha =>?_⟩;unfold wS at hs;split at hs
 case h_2=>exact hs.elim
 rename_i n;split at hs
 case h_2=>exact hs.elim
 rename_i t x hob;split at hs
 case h_2=>exact hs.elim
 rename_i ht;have ht':=Ty.eq_of_beq ht;subst ht';rw[jQ]at hs;obtain⟨⟨hT,he⟩,hs⟩:=hs
 match vs,ha with
 |[v0],.cons h0 .nil=>
 obtain⟨b,p,u,rfl,hD⟩:=G9 g hob h0;have hT':x.2.1.toNat=T:=by rw[hT];rfl
 have hheap:=hD.heap;rw[hT']at hheap;obtain⟨a,c,rfl,hl⟩:∃a c,u=.slice a x.1.length c/\x.1.length<=aL:=by
  rcases hD.row.2 with⟨rfl,h⟩|⟨g',cap,cur,h,_,_,h1,h2,_⟩
  ·exact⟨none,0,by rw[h],by rw[h];exact ar _⟩
  ·exact⟨_,_,h,by unfold maxLen at h2;unfold aL;omega⟩
 refine(H b p p a x.1.length c w hheap).mono ?_;rintro r w' ⟨rfl,rfl⟩;refine⟨_,_,_,loc,rfl,hs,rfl,fun _=>Below.refl _ _,g,Tr.refl _,?_⟩;refine(cQ (eT:=eT) (S:=aA O st loc w')).2 ⟨rfl,?_⟩;unfold aL at hl;simp only[dp,dq,dr,dt];constructor <;> simp <;> omega
end
end Go.Vg

namespace Go.Mrl
open Go.Vg
def small(c:UInt8):Bool:=decide ((97:Int)<=c.toNat)&&decide ((c.toNat:Int)<=122)
def other(c:UInt8):Bool:=(decide ((48:Int)<=c.toNat)&&decide ((c.toNat:Int)<=57)) || ((c.toNat:Int) == 95)
def ki(i:Nat)(c:UInt8):Bool:=!small c&&((i:Int) == 0 || !other c)
def tZ(s:List UInt8):Bool:=(ba s.length).any fun i=>ki i (dP s i)
def aP(s:List UInt8):Int:=if s.length<1\/8<s.length then 1 else if tZ s=true then 3 else 0
def aI(n:Int):aK:=if n=0 then .nil else .no n
def ym:aK->Int->Bool
 |.nil,n=>n == 0
 |.no m,n=>decide (n > 0)&&m == n
 |.other,_=>false
def jK:aK->Int
 |.nil=>0
 |.no m=>m
 |.other =>-1
def eU(s:List UInt8):0<=aP s:=by
 unfold aP;split
 ·decide
 ·split <;> decide
def JI{s:List UInt8}{i:Nat}(h:i<s.length)(hb:ki i (dP s i)=true):tZ s=true:=by
 simp only[tZ,cw,er];exact⟨i,h,hb⟩
def Ha{s:List UInt8}(h:∀i,i<s.length->ki i (dP s i)=false):tZ s=false:=by
 simp only[tZ,cy,er];intro i hi;rw[h i hi];simp
def FU{s:List UInt8}(h:s.length<1\/8<s.length):aP s=1:=by unfold aP;rw[if_pos h]
def B2{s:List UInt8}{i:Nat}(h:¬(s.length<1\/8<s.length))(hi:i<s.length)(hb:ki i (dP s i)=true):aP s=3:=by
 unfold aP;rw[if_neg h,if_pos (JI hi hb)]
def Dh{s:List UInt8}(h:¬(s.length<1\/8<s.length))(hb:∀i,i<s.length->ki i (dP s i)=false):aP s=0:=by
 unfold aP;rw[if_neg h,if_neg (by rw[Ha hb];decide)]
def Ek{i:Nat}{c:UInt8}:ki i c=true↔¬(97<=c.toNat/\c.toNat<=122)/\(i=0\/¬((48<=c.toNat/\c.toNat<=57)\/c.toNat=95)):=by
 simp only[ki,small,other,af,cf,Bool.and_eq_false_iff,bq,du,decide_eq_false_iff_not,beq_iff_eq,beq_eq_false_iff_ne];omega
def JJ{i:Nat}{c:UInt8}:ki i c=false↔¬(¬(97<=c.toNat/\c.toNat<=122)/\(i=0\/¬((48<=c.toNat/\c.toNat<=57)\/c.toNat=95))):=by
 rw[<-Ek];simp
def Sz{s:List UInt8}{i:Nat}(h:∀j,j<i->ki j (dP s j)=false)(hb:ki i (dP s i)=false):∀j,j<i+1->ki j (dP s j)=false:=by
 intro j hj;rcases bg j i with hlt|hge
 ·exact h j hlt
 ·obtain rfl:j=i:=by omega
  exact hb
def hZ(p:D aS->Prop)(l:List (D aB))(i k:Nat):Prop:=
 i<l.length/\k<(nth aB l i).2.2.1.length/\p (nth aS (nth aB l i).2.2.1 k)
def yZ(s:List UInt8)(x:D aS):Prop:=x.1=s
def nD(s:List UInt8)(x:D aS):Prop:=x.1=s/\x.2.2.1=false
def ahead(i k i' k':Nat):Prop:=i<i'\/(i=i'/\k<k')
def wT(p:D aS->Prop)(l:List (D aB))(i k:Nat):Prop:=∀i' k',ahead i' k' i k->¬hZ p l i' k'
def mh(p:D aS->Prop)(l:List (D aB))(i k:Nat):Prop:=hZ p l i k/\wT p l i k
def wU{p:D aS->Prop}{l:List (D aB)}{i k i' k':Nat}(h:mh p l i k)(h':mh p l i' k'):i=i'/\k=k':=by
 have h1:¬ahead i k i' k':=fun a=>h'.2 i k a h.1
 have h2:¬ahead i' k' i k:=fun a=>h.2 i' k' a h'.1
 unfold ahead at h1 h2;omega
def wV{p:D aS->Prop}{l:List (D aB)}{i k:Nat}(h:hZ p l i k):∃i k,mh p l i k:=by
 have hi:∀n,∀i,i<=n->∀k,hZ p l i k->∃i,(∃k,hZ p l i k)/\∀j,j<i->∀k,¬hZ p l j k:=by
  intro n;induction n with
  |zero=>intro i hi k h;exact⟨i,⟨k,h⟩,fun j hj=>by omega⟩
  |succ n ih=>
   intro i hi k h;by_cases c:∃j,j<i/\∃k,hZ p l j k
   ·obtain⟨j,hj,k,hk⟩:=c
    exact ih j (by omega) k hk
   ·exact⟨i,⟨k,h⟩,fun j hj k hk=>c ⟨j,hj,k,hk⟩⟩
 obtain⟨i0,⟨k0,h0⟩,hmin⟩:=hi i i (ak _) k h;have hk:∀n,∀k,k<=n->hZ p l i0 k->∃k,hZ p l i0 k/\∀j,j<k->¬hZ p l i0 j:=by
  intro n;induction n with
  |zero=>intro k hk h;exact⟨k,h,fun j hj=>by omega⟩
  |succ n ih=>
   intro k hk h;by_cases c:∃j,j<k/\hZ p l i0 j
   ·obtain⟨j,hj,h2⟩:=c
    exact ih j (by omega) h2
   ·exact⟨k,h,fun j hj h2=>c ⟨j,hj,h2⟩⟩
 obtain⟨k1,h1,h2⟩:=hk k0 k0 (ak _) h0;refine⟨i0,k1,h1,fun i' k' ha hp =>?_⟩;rcases ha with ha|⟨rfl,ha⟩
 ·exact hmin i' ha k' hp
 ·exact h2 k' ha hp
open Classical in
def dY(x:List (D aB)×List UInt8):Int×Int:=
 if h:∃p:Nat×Nat,mh (nD x.2) x.1 p.1 p.2 then(((b9 h).1:Nat),((b9 h).2:Nat))
 else if h:∃p:Nat×Nat,mh (yZ x.2) x.1 p.1 p.2 then(((b9 h).1:Nat),((b9 h).2:Nat))
 else(-1,-1)
def wW{l:List (D aB)}{s:List UInt8}{i k:Nat}(h:mh (nD s) l i k):dY (l,s)=((i:Int),(k:Int)):=by
 have hx:∃p:Nat×Nat,mh (nD s) l p.1 p.2:=⟨(i,k),h⟩
 unfold dY;rw[dif_pos hx];have:=wU h (cz hx);rw[<-this.1,<-this.2]
def B3{l:List (D aB)}{s:List UInt8}{i k:Nat}(hn:∀i k,¬hZ (nD s) l i k)(h:mh (yZ s) l i k):dY (l,s)=((i:Int),(k:Int)):=by
 have hx:∃p:Nat×Nat,mh (yZ s) l p.1 p.2:=⟨(i,k),h⟩
 unfold dY;rw[dif_neg (fun⟨p,h⟩=>hn p.1 p.2 h.1),dif_pos hx];have:=wU h (cz hx);rw[<-this.1,<-this.2]
def B4{l:List (D aB)}{s:List UInt8}(hn:∀i k,¬hZ (yZ s) l i k):dY (l,s)=(-1,-1):=by
 unfold dY;rw[dif_neg (fun⟨p,h⟩=>hn p.1 p.2 ⟨h.1.1,h.1.2.1,h.1.2.2.1⟩),dif_neg (fun⟨p,h⟩=>hn p.1 p.2 h.1)]
def JK(l:List (D aB))(s:List UInt8):(∃i k:Nat,dY (l,s)=((i:Int),(k:Int))/\mh (nD s) l i k)\/
  (∃i k:Nat,dY (l,s)=((i:Int),(k:Int))/\mh (yZ s) l i k/\∀i k,¬hZ (nD s) l i k)\/
  (dY (l,s)=(-1,-1)/\∀i k,¬hZ (yZ s) l i k):=by
 by_cases h1:∃i k,hZ (nD s) l i k
 ·obtain⟨i,k,h⟩:=h1
  obtain⟨i,k,h⟩:=wV h;exact .inl ⟨i,k,wW h,h⟩
 ·have h1':∀i k,¬hZ (nD s) l i k:=fun i k h=>h1 ⟨i,k,h⟩
  by_cases h2:∃i k,hZ (yZ s) l i k
  ·obtain⟨i,k,h⟩:=h2
   obtain⟨i,k,h⟩:=wV h;exact .inr (.inl ⟨i,k,B3 h1' h,h,h1'⟩)
  ·have h2':∀i k,¬hZ (yZ s) l i k:=fun i k h=>h2 ⟨i,k,h⟩
   exact .inr (.inr ⟨B4 h2',h2'⟩)
def iW(l:List (D aB))(s:List UInt8)(i k:Nat)(a b:Int):Prop:=
 wT (nD s) l i k/\((a= -1/\b= -1/\wT (yZ s) l i k)\/∃i0 k0:Nat,a=i0/\b=k0/\mh (yZ s) l i0 k0)
def iW.start(l:List (D aB))(s:List UInt8):iW l s 0 0 (-1) (-1):=
 ⟨fun i' k' h=>by unfold ahead at h;omega,.inl ⟨rfl,rfl,fun i' k' h=>by unfold ahead at h;omega⟩⟩
def wT.next{p:D aS->Prop}{l:List (D aB)}{i k:Nat}(h:wT p l i k)(hn:¬hZ p l i k):wT p l i (k+1):=by
 intro i' k' ha hp;by_cases e:i'=i/\k'=k
 ·rw[e.1,e.2]at hp;exact hn hp
 ·exact h i' k' (by unfold ahead at*;omega) hp
def iW.skip{l:List (D aB)}{s:List UInt8}{i k:Nat}{a b:Int}(h:iW l s i k a b)(hn:¬(nth aS (nth aB l i).2.2.1 k).1=s):iW l s i (k+1) a b:=by
 refine⟨h.1.next fun hp=>hn hp.2.2.1,?_⟩;rcases h.2 with⟨h1,h2,h3⟩|h3
 ·exact .inl ⟨h1,h2,h3.next fun hp=>hn hp.2.2⟩
 ·exact .inr h3
def iW.Ww{l:List (D aB)}{s:List UInt8}{i k:Nat}{a b:Int}(h:iW l s i k a b)(hi:i<l.length)(hk:k<(nth aB l i).2.2.1.length)
  (hs:(nth aS (nth aB l i).2.2.1 k).1=s)(hw:(nth aS (nth aB l i).2.2.1 k).2.2.1=false):dY (l,s)=((i:Int),(k:Int)):=
 wW ⟨⟨hi,hk,hs,hw⟩,h.1⟩
def iW.Db{l:List (D aB)}{s:List UInt8}{i k:Nat}{a b:Int}(h:iW l s i k a b)(hi:i<l.length)(hk:k<(nth aB l i).2.2.1.length)
  (hs:(nth aS (nth aB l i).2.2.1 k).1=s)(hw:¬(nth aS (nth aB l i).2.2.1 k).2.2.1=false)(ha:a<0):iW l s i (k+1) (i:Int) (k:Int):=by
 refine⟨h.1.next fun hp=>hw hp.2.2.2,.inr ⟨i,k,rfl,rfl,⟨hi,hk,hs⟩,?_⟩⟩;rcases h.2 with⟨_,_,h3⟩|⟨i0,k0,h1,_⟩
 ·exact h3
 ·omega
def iW.more{l:List (D aB)}{s:List UInt8}{i k:Nat}{a b:Int}(h:iW l s i k a b)
  (hw:¬(nth aS (nth aB l i).2.2.1 k).2.2.1=false)(ha:¬a<0):iW l s i (k+1) a b:=by
 refine⟨h.1.next fun hp=>hw hp.2.2.2,?_⟩;rcases h.2 with⟨h1,_,_⟩|h3
 ·omega
 ·exact .inr h3
def wT.row{p:D aS->Prop}{l:List (D aB)}{i k:Nat}(h:wT p l i k)(hk:(nth aB l i).2.2.1.length<=k):wT p l (i+1) 0:=by
 intro i' k' ha hp;refine h i' k' ?_ hp;unfold ahead at*;by_cases e:i'=i
 ·subst e;have:=hp.2.1;omega
 ·omega
def iW.row{l:List (D aB)}{s:List UInt8}{i k:Nat}{a b:Int}(h:iW l s i k a b)(hk:(nth aB l i).2.2.1.length<=k):iW l s (i+1) 0 a b:=by
 refine⟨h.1.row hk,?_⟩;rcases h.2 with⟨h1,h2,h3⟩|h3
 ·exact .inl ⟨h1,h2,h3.row hk⟩
 ·exact .inr h3
def wT.all{p:D aS->Prop}{l:List (D aB)}{i k:Nat}(h:wT p l i k)(hi:l.length<=i):∀i k,¬hZ p l i k:=
 fun i' k' hp=>h i' k' (by have:=hp.1;unfold ahead;omega) hp
def iW.done{l:List (D aB)}{s:List UInt8}{i k:Nat}{a b:Int}(h:iW l s i k a b)(hi:l.length<=i):dY (l,s)=(a,b):=by
 rcases h.2 with⟨rfl,rfl,h3⟩|⟨i0,k0,rfl,rfl,h3⟩
 ·exact B4 (h3.all hi)
 ·exact B3 (h.1.all hi) h3
def lX{p:Nat->Prop}{n:Nat}(h:∀j,j<n->p j)(hn:p n):∀j,j<n+1->p j:=by
 intro j hj;by_cases e:j=n
 ·rw[e];exact hn
 ·exact h j (by omega)
def yn{l:List (D aB)}{s:List UInt8}(h:0<=(dY (l,s)).1):(dY (l,s)).1<l.length/\0<=(dY (l,s)).2/\(dY (l,s)).2<(nth aB l (dY (l,s)).1.toNat).2.2.1.length/\
  (nth aS (nth aB l (dY (l,s)).1.toNat).2.2.1 (dY (l,s)).2.toNat).1=s:=by
 rcases JK l s with⟨i0,k0,e,f⟩|⟨i0,k0,e,f,n⟩|⟨e,n⟩
 ·rw[e];obtain⟨h1,h2,h3⟩:=f.1;exact⟨by simp only;omega,by simp only;omega,by simp only[dv];omega,h3.1⟩
 ·rw[e];obtain⟨h1,h2,h3⟩:=f.1;exact⟨by simp only;omega,by simp only;omega,by simp only[dv];omega,h3⟩
 ·rw[e]at h;simp at h
end Go.Mrl
namespace Go.Mrl
open Go.Vg
end Go.Mrl
namespace Go.Mrl
open Go.Vg
end Go.Mrl

namespace Go.Mrl
open Go.Vg
end Go.Mrl
namespace Go.Mrl
open Go.Vg
end Go.Mrl
namespace Go.Mrl
open Go.Vg
end Go.Mrl
namespace Go.Mrl
open Go.Vg
end Go.Mrl
namespace Go.Mrl
open Go.Vg
end Go.Mrl
namespace Go.Mrl
open Go.Vg
end Go.Mrl

namespace Go.Mrl
open Go.Vg
def ik(a b:Int×Int×Unit):Bool:=decide (a.2.1<=0) || (decide (b.2.1<=0) || (decide (a.1+a.2.1<=b.1) || decide (b.1+b.2.1<=a.1)))
def JL{a b:Int×Int×Unit}:ik a b=true↔a.2.1<=0\/b.2.1<=0\/a.1+a.2.1<=b.1\/b.1+b.2.1<=a.1:=by simp[ik]
def wX{a b:Int×Int×Unit}:ik a b=false↔0<a.2.1/\0<b.2.1/\b.1<a.1+a.2.1/\a.1<b.1+b.2.1:=by simp[ik]
def cM(n:Int):Int:=(n+15) / 16*16
def oX(r:Int×Int×Unit):Prop:=-1000000<=r.1/\r.1<=1000000/\-1000000<=r.2.1/\r.2.1<=1000000
def iZ(r:D aY)(l:List (D aY)):Bool:=l.all (ik r)
def pq{t:Ty}{xs:List (D t)}{i:Nat}(h:i<xs.length):xs[i]?=some (nth t xs i):=by
 rw[List.getElem?_eq_getElem h,<-jc (List.getElem?_eq_getElem h)]
def eJ{t:Ty}{xs:List (D t)}{i:Nat}(h:i<xs.length):nth t xs i∈xs:=by
 have:=pq (t:=t) h;exact br this
def hH{t:Ty}{xs:List (D t)}{x:D t}(h:x∈xs):∃i,i<xs.length/\nth t xs i=x:=by
 obtain⟨i,hi,e⟩:=dw h;exact⟨i,hi,by rw[<-e];exact jc (List.getElem?_eq_getElem hi)⟩
def B5{r:D aY}{l:List (D aY)}(h:∀j,j<l.length->ik r (nth aY l j)=true):iZ r l=true:=by
 unfold iZ;rw[ca];intro x hx;obtain⟨i,hi,e⟩:=hH hx;rw[<-e];exact h i hi
def y5{r:D aY}{l:List (D aY)}{j:Nat}(h:j<l.length)(hf:ik r (nth aY l j)=false):iZ r l=false:=by
 unfold iZ;rw[c6];exact⟨_,eJ h,by rw[hf];decide⟩
def O7{r:D aY}{l:List (D aY)}(h:iZ r l=false):∃x∈l,ik r x=false:=by
 unfold iZ at h;rw[c6]at h;obtain⟨x,hx,e⟩:=h;exact⟨x,hx,by simpa using e⟩
def gv(l:List (D aY))(many:Int):Nat->Int->Int
 |0,at_=>at_
 |n+1,at_=>if iZ (at_,many,()) l=true then at_ else gv l many n (at_+16)
def gS:List (D aY)->List Int->List Int->Option (List Int)
 |_,[],out=>some out
 |l,n :: r,out=>if 256<gv l (cM n) 40 0+cM n then none else gS (l++[(gv l (cM n) 40 0,cM n,())]) r (out++[gv l (cM n) 40 0])
def AE(s:List Int):Bool:=s.any fun(n:Int)=>decide (n<1) || decide (40<n)
def AF(l:List (D aY)):Bool:=l.any fun(r:Int×Int×Unit)=>decide (r.1<0) || (decide (256<r.1) || (decide (r.2.1<0) || decide (256<r.2.1)))
def cN(x:List Int×List (D aY)):List Int×aK:=
 if 6<x.1.length\/20<x.2.length then([],.no 2)else if AE x.1=true\/AF x.2=true then([],.no 1)else
  match gS x.2 x.1 []with
  |some o=>(o,.nil)
  |none=>([],.no 8)
def K6{t:Ty}{xs:List (D t)}{p:D t->Bool}{i:Nat}(h:i<xs.length)(hp:p (nth t xs i)=true):xs.any p=true:=by
 rw[cw];exact⟨_,eJ h,hp⟩
def K7{t:Ty}{xs:List (D t)}{p:D t->Bool}(h:∀i,i<xs.length->p (nth t xs i)=false):xs.any p=false:=by
 rw[cy];intro x hx;obtain⟨i,hi,e⟩:=hH hx;rw[<-e,h i hi];decide
def rZ{l:List (D aY)}{s out:List Int}{k:Nat}(h:k<s.length):gS l (s.drop k) out=
  if 256<gv l (cM (nth (.int .i64) s k)) 40 0+cM (nth (.int .i64) s k)then none
  else gS (l++[(gv l (cM (nth (.int .i64) s k)) 40 0,cM (nth (.int .i64) s k),())]) (s.drop (k+1)) (out++[gv l (cM (nth (.int .i64) s k)) 40 0]):=by
 have e:s.drop k=nth (.int .i64) s k :: s.drop (k+1):=by
  rw[et h];congr 1;exact(jc (t:=.int .i64) (List.getElem?_eq_getElem h)).symm
 rw[e];rfl
def JM{l:List (D aY)}{s out:List Int}{k:Nat}(h:s.length<=k):gS l (s.drop k) out=some out:=by
 rw[b3 h];rfl
def nP(r:Int×Int×Unit):Prop:=0<=r.1/\r.1<=256/\0<=r.2.1/\r.2.1<=256
def nP.oX{r:Int×Int×Unit}(h:nP r):Mrl.oX r:=by
 obtain⟨h1,h2,h3,h4⟩:=h;refine⟨?_,?_,?_,?_⟩ <;> omega
def O8{l:List (D aY)}{at_ many:Int}(hl:∀x∈l,nP x)(h:iZ (at_,many,()) l=false):at_<512:=by
 obtain⟨x,hx,e⟩:=O7 h;obtain⟨h1,h2,h3,h4⟩:=hl x hx;obtain⟨h5,h6,h7,h8⟩:=wX.1 e;have h8:at_<x.1+x.2.1:=h8;omega
def qn{l:List (D aY)}{many at_:Int}{n:Nat}(h:iZ (at_,many,()) l=true):gv l many n at_=at_:=by
 cases n with
 |zero=>rfl
 |succ n=>rw[gv,if_pos h]
def El{l:List (D aY)}{many at_:Int}{n:Nat}(h:iZ (at_,many,()) l=false):gv l many (n+1) at_=gv l many n (at_+16):=by
 rw[gv,if_neg (by rw[h];decide)]
def lr{n:Int}(h1:1<=n)(h2:n<=40):16<=cM n/\cM n<=48:=by unfold cM;omega
end Go.Mrl
namespace Go.Mrl
open Go.Vg
def y7{s:List Int}{l:List (D aY)}(h:6<s.length\/20<l.length):cN (s,l)=([],.no 2):=by
 unfold cN;rw[if_pos h]
def y8{s:List Int}{l:List (D aY)}(h:¬(6<s.length\/20<l.length)){i:Nat}(hi:i<s.length)(hb:¬(1<=(nth (.int .i64) s i:Int)/\(nth (.int .i64) s i:Int)<=40)):cN (s,l)=([],.no 1):=by
 unfold cN;rw[if_neg h,if_pos];refine .inl (K6 (t:=.int .i64) hi ?_);simp only[bq,decide_eq_true_eq];generalize nth (.int .i64) s i=x at hb;have hb:¬(1<=(x:Int)/\(x:Int)<=40):=hb;dsimp only[D]at*;omega
def wY{s:List Int}{l:List (D aY)}(h:¬(6<s.length\/20<l.length)){i:Nat}(hi:i<l.length)(hb:¬nP (nth aY l i)):cN (s,l)=([],.no 1):=by
 unfold cN;rw[if_neg h,if_pos];refine .inr (K6 (t:=aY) hi ?_);simp only[bq,decide_eq_true_eq];unfold nP at hb;dsimp only[D]at*;omega
def wZ{s:List Int}{l:List (D aY)}(h:¬(6<s.length\/20<l.length))(hs:∀j,j<s.length->1<=(nth (.int .i64) s j:Int)/\(nth (.int .i64) s j:Int)<=40)(ht:∀j,j<l.length->nP (nth aY l j)) :
  cN (s,l)=match gS l s []with|some o=>(o,.nil)|none=>([],.no 8):=by
 unfold cN;rw[if_neg h,if_neg];rintro(e|e)
 ·have:AE s=false:=K7 (t:=.int .i64) fun i hi=>by
   have:=hs i hi;simp only[du,decide_eq_false_iff_not];dsimp only[D]at*;omega
  rw[this]at e;cases e
 ·have:AF l=false:=K7 (t:=aY) fun i hi=>by
   have:=ht i hi;unfold nP at this;simp only[du,decide_eq_false_iff_not];dsimp only[D]at*;omega
  rw[this]at e;cases e
end Go.Mrl
namespace Go.Mrl
open Go.Vg
def SA{l:List (Int×Int×Unit)}{r:Int×Int×Unit}(h:∀y∈l,nP y)(hr:nP r):∀y∈l++[r],nP y:=by
 intro y hy;rcases au.1 hy with hy|hy
 ·exact h y hy
 ·simp at hy;rw[hy];exact hr
end Go.Mrl
namespace Go.Mrl
open Go.Vg
end Go.Mrl
namespace Go.Mrl
open Go.Vg
end Go.Mrl

namespace Go.Mrl
open Go.Vg
def tq{t:Ty}{a b:List (D t)}(hl:a.length=b.length)(h:∀i,i<a.length->nth t a i=nth t b i):a=b:=by
 apply List.ext_getElem hl;intro i h1 h2;have:=h i h1
 rwa [show nth t a i=a[i]from jc (List.getElem?_eq_getElem h1),show nth t b i=b[i]from jc (List.getElem?_eq_getElem h2)]at this
def mI(a b:List Int):Bool:=decide (a=b)
def nE(a b:List (List UInt8)):Bool:=decide (a=b)
def MC{a b:List Int}(hl:(a.length:Int)=b.length)(h:∀i,i<a.length->nth (.int .i64) a i=nth (.int .i64) b i):true=mI a b:=by
 rw[tq (t:=.int .i64) (by omega) h];simp[mI]
def O9{a b:List Int}(hl:¬(a.length:Int)=b.length):false=mI a b:=by
 symm;simp only[mI,decide_eq_false_iff_not];intro e;exact hl (by rw[e])
def SB{a b:List Int}{i:Nat}(h:¬nth (.int .i64) a i=nth (.int .i64) b i):false=mI a b:=by
 symm;simp only[mI,decide_eq_false_iff_not];intro e;exact h (by rw[e])
def MD{a b:List (List UInt8)}(hl:(a.length:Int)=b.length)(h:∀i,i<a.length->nth .str a i=nth .str b i):true=nE a b:=by
 rw[tq (t:=.str) (by omega) h];simp[nE]
def Pa{a b:List (List UInt8)}(hl:¬(a.length:Int)=b.length):false=nE a b:=by
 symm;simp only[nE,decide_eq_false_iff_not];intro e;exact hl (by rw[e])
def SC{a b:List (List UInt8)}{i:Nat}(h:¬nth .str a i=nth .str b i):false=nE a b:=by
 symm;simp only[nE,decide_eq_false_iff_not];intro e;exact h (by rw[e])
def Xq{α:Type}{p:Nat->α->Prop}{f:Nat->α}{k:Nat}(h:∀j,j<k->p j (f j))(hk:p k (f k)):∀j,j<k+1->p j (f j):=by
 intro j hj;by_cases e:j=k
 ·subst e;exact hk
 ·exact h j (by omega)
def Em{p:Nat->Prop}{k:Nat}(h:∀j,j<k->p j)(hk:p k):∀j,j<k+1->p j:=by
 intro j hj;by_cases e:j=k
 ·subst e;exact hk
 ·exact h j (by omega)
def pr{t:Ty}{a b:List (D t)}{i:Nat}:nth t (a++b) i=if i<a.length then nth t a i else nth t b (i-a.length):=by
 unfold nth;simp only[List.getD_eq_getElem?_getD,List.getElem?_append];split <;> rfl
def AG{t:Ty}{a:List (D t)}{n i:Nat}(h:i<n):nth t (a.take n) i=nth t a i:=by
 unfold nth;simp only[List.getD_eq_getElem?_getD,List.getElem?_take,if_pos h]
@[reducible] def ji:Ty:=.slice (.int .i64)
@[reducible] def mi:Ty:=.slice ji
abbrev Pt:=Int×Int×Int×Unit
abbrev Ws:=List (List Int)
def ua(w:Ws)(p:Pt):Prop:=0<=p.1/\p.1<w.length/\0<=p.2.1/\p.2.1<(nth ji w p.1.toNat).length
def tt(w:Ws)(p:Pt):Ws:=w.set p.1.toNat ((nth ji w p.1.toNat).set p.2.1.toNat p.2.2.1)
def lu(w:Ws)(l:List Pt):Ws:=l.foldl tt w
open Classical in
def iX(x:Ws×List Pt):Ws×aK:=if ∀i,i<x.2.length->ua x.1 (nth aR x.2 i)then(lu x.1 x.2,.nil)else([],.no 1)
def nF{t:Ty}{l:List (D t)}{i j:Nat}{x:D t}(h:¬i=j):nth t (l.set i x) j=nth t l j:=by
 unfold nth;simp only[List.getD_eq_getElem?_getD];rw[List.getElem?_set_ne h]
def nG{t:Ty}{l:List (D t)}{i:Nat}{x:D t}(h:i<l.length):nth t (l.set i x) i=x:=by
 unfold nth;simp only[List.getD_eq_getElem?_getD];rw[List.getElem?_set_self h];rfl
def JN(w:Ws)(p:Pt):(tt w p).length=w.length:=by simp[tt]
def SD(w:Ws)(p:Pt)(i:Nat):nth ji (tt w p) i=if i<w.length/\p.1.toNat=i then(nth ji w i).set p.2.1.toNat p.2.2.1 else nth ji w i:=by
 unfold tt;by_cases c:p.1.toNat=i
 ·subst c
  by_cases c2:p.1.toNat<w.length
  ·rw[if_pos ⟨c2,rfl⟩,nG (t:=ji) c2]
  ·rw[if_neg (fun h=>c2 h.1),List.set_eq_of_length_le (by omega)]
 ·rw[if_neg (fun h=>c h.2),nF (t:=ji) c]
def Pb(w:Ws)(p:Pt)(i:Nat):(nth ji (tt w p) i).length=(nth ji w i).length:=by
 rw[SD];split <;> simp
def qo(l:List Pt):∀w:Ws,(lu w l).length=w.length:=by
 induction l with
 |nil=>intro w;rfl
 |cons p l ih=>intro w;show(lu (tt w p) l).length=_;rw[ih,JN]
def w4(l:List Pt):∀(w:Ws) (i:Nat),(nth ji (lu w l) i).length=(nth ji w i).length:=by
 induction l with
 |nil=>intro w i;rfl
 |cons p l ih=>intro w i;show(nth ji (lu (tt w p) l) i).length=_;rw[ih,Pb]
def Pc(w:Ws)(l:List Pt)(p:Pt):lu w (l++[p])=tt (lu w l) p:=by simp[lu]
def lK{t:Ty}{l:List (D t)}{k:Nat}(h:k<l.length):l.take (k+1)=l.take k++[nth t l k]:=by
 rw[dx,pq h];rfl
def Pd{w:Ws}{l:List Pt}{k:Nat}(h:k<l.length):tt (lu w (l.take k)) (nth aR l k)=lu w (l.take (k+1)):=by
 rw[lK (t:=aR) h,Pc]
def yp{w:Ws}{l:List Pt}(h:∀i,i<l.length->ua w (nth aR l i)):iX (w,l)=(lu w l,.nil):=by unfold iX;rw[if_pos h]
def SE{w:Ws}{l:List Pt}{i:Nat}(hi:i<l.length)(h:¬ua w (nth aR l i)):iX (w,l)=([],.no 1):=by
 unfold iX;rw[if_neg (fun hh=>h (hh i hi))]
def SF{w:Ws}{l:List Pt}(h:(iX (w,l)).2.isNil=true):∀i,i<l.length->ua w (nth aR l i):=by
 unfold iX at h;split at h
 ·assumption
 ·cases h
def SG{w:Ws}{l:List Pt}(h:(iX (w,l)).2.isNil=true):(iX (w,l)).1.length=w.length:=by rw[yp (SF h)];exact qo l w
def Small(x:Int):Prop:=-1000000<=x/\x<=1000000
def Word(x:Int):Prop:=-2147483648<=x/\x<=2147483647
def Uw(o:D aB):Prop:=o.2.2.2.1.length<=10/\(∀i,i<o.2.2.1.length->Small (nth aS o.2.2.1 i).2.1)/\
 ∀i,i<o.2.2.2.1.length->Small (nth bD o.2.2.2.1 i).1/\Word (nth bD o.2.2.2.1 i).2.2.1
def jN(l:List (D aB)):Prop:=l.length<=8/\∀i,i<l.length->Uw (nth aB l i)
def pL(b:List Int):Prop:=∀i,i<b.length->0<=(nth (.int .i64) b i:Int)/\(nth (.int .i64) b i:Int)<=256
def n9(b:List Int)(i:Nat):Int:=nth (.int .i64) b i
def fJ(l:List (D aB))(b:List Int)(t:D bD):Int×aK:=
 if 0<=(dY (l,t.2.2.2.1)).1 then(n9 b (dY (l,t.2.2.2.1)).1.toNat+(nth aS (nth aB l (dY (l,t.2.2.2.1)).1.toNat).2.2.1 (dY (l,t.2.2.2.1)).2.toNat).2.1,.nil)
 else if t.2.2.2.2.1=true then(0,.nil)else(0,.no 6)
def kj(b:List Int)(i:Int)(t:D bD)(n:Int):Int×aK:=
 if t.2.1=(3:Int)then
  if n-(n9 b i.toNat+t.1)< -500\/500<n-(n9 b i.toNat+t.1)then(0,.no 7)
  else(n-(n9 b i.toNat+t.1),.nil)
 else if n< -2147483648\/2147483647<n then(0,.no 7)else(n,.nil)
def gT(l:List (D aB))(b:List Int)(i:Int)(t:D bD):Int×aK:=
 if t.2.1=(1:Int)then kj b i t (n9 b i.toNat+t.2.2.1)
 else if(fJ l b t).2.isNil=true then kj b i t ((fJ l b t).1+t.2.2.1)else(0,(fJ l b t).2)
def od(l:List (D aB))(b:List Int)(i:Nat):List (D bD)->List Pt->List Pt×aK
 |[],out=>(out,.nil)
 |t :: r,out=>if(gT l b i t).2.isNil=true then od l b i r (out++[((i:Int),t.1,(gT l b i t).1,())])else([],(gT l b i t).2)
def oB(f:List Pt->List Pt×aK)(x:List Pt×aK):List Pt×aK:=if x.2.isNil=true then f x.1 else([],x.2)
def nQ(l:List (D aB))(b:List Int):List (D aB)->Nat->List Pt->List Pt×aK
 |[],_,out=>(out,.nil)
 |o :: r,i,out=>oB (nQ l b r (i+1)) (od l b i o.2.2.2.1 out)
open Classical in
def iF(x:List (D aB)×List Int):List Pt×aK:=
 if ¬x.2.length=x.1.length then([],.no 3)else if pL x.2 then nQ x.1 x.2 x.1 0 []else([],.no 1)
def iG{t:Ty}{l:List (D t)}{i:Nat}(h:i<l.length):l.drop i=nth t l i :: l.drop (i+1):=by
 rw[et h];congr 1;have:=pq h;rw[List.getElem?_eq_getElem h]at this;exact dy this
def Pe{l:List (D aB)}{b:List Int}{i:Nat}{out:List Pt}(h:i<l.length) :
  nQ l b (l.drop i) i out=oB (nQ l b (l.drop (i+1)) (i+1)) (od l b i ((nth aB l i).2.2.2.1.drop 0) out):=by
 rw[iG (t:=aB) h];rfl
def U7{l:List (D aB)}{b:List Int}{i:Nat}{out:List Pt}(h:l.length<=i):nQ l b (l.drop i) i out=(out,.nil):=by
 rw[b3 h];rfl
def Wx{l:List (D aB)}{b:List Int}{i k:Nat}{ts:List (D bD)}{out:List Pt}(h:k<ts.length)(hn:(gT l b i (nth bD ts k)).2.isNil=true) :
  od l b i (ts.drop k) out=od l b i (ts.drop (k+1)) (out++[((i:Int),(nth bD ts k).1,(gT l b i (nth bD ts k)).1,())]):=by
 rw[iG (t:=bD) h,od,if_pos hn]
def U8{l:List (D aB)}{b:List Int}{i k:Nat}{ts:List (D bD)}{out:List Pt}{f:List Pt->List Pt×aK}(h:k<ts.length)(hn:(gT l b i (nth bD ts k)).2.isNil=false) :
  oB f (od l b i (ts.drop k) out)=([],(gT l b i (nth bD ts k)).2):=by
 rw[iG (t:=bD) h,od,if_neg (by simp[hn])];unfold oB;rw[if_neg (by simp[hn])]
def U9{l:List (D aB)}{b:List Int}{i k:Nat}{ts:List (D bD)}{out:List Pt}{f:List Pt->List Pt×aK}(h:ts.length<=k):oB f (od l b i (ts.drop k) out)=f out:=by
 rw[b3 h];rfl
def Di{l:List (D aB)}{b:List Int}(h:b.length=l.length)(hb:pL b):iF (l,b)=nQ l b l 0 []:=by unfold iF;rw[if_neg (by simpa using h),if_pos hb]
def SH{l:List (D aB)}{b:List Int}(h:¬b.length=l.length):iF (l,b)=([],.no 3):=by unfold iF;rw[if_pos h]
def Pf{l:List (D aB)}{b:List Int}{i:Nat}(h:b.length=l.length)(hi:i<b.length)(hn:¬(0<=(nth (.int .i64) b i:Int)/\(nth (.int .i64) b i:Int)<=256)):iF (l,b)=([],.no 1):=by
 unfold iF;rw[if_neg (by simpa using h),if_neg (fun hh=>hn (hh i hi))]
def p3{b:List Int}{n:Nat}{i:Int}(hb:pL b)(hl:b.length=n)(h0:0<=i)(h1:i<n):0<=(nth (.int .i64) b i.toNat:Int)/\(nth (.int .i64) b i.toNat:Int)<=256:=hb _ (by omega)
def Pg{l:List (D aB)}{s:List UInt8}(hm:jN l)(h:0<=(dY (l,s)).1):Small (nth aS (nth aB l (dY (l,s)).1.toNat).2.2.1 (dY (l,s)).2.toNat).2.1:=by
 have hf:=yn h;exact(hm.2 _ (by omega)).2.1 _ (by omega)
def B6{l:List (D aB)}{b:List Int}{t:D bD}(h:0<=(dY (l,t.2.2.2.1)).1) :
  fJ l b t=(nth (.int .i64) b (dY (l,t.2.2.2.1)).1.toNat+(nth aS (nth aB l (dY (l,t.2.2.2.1)).1.toNat).2.2.1 (dY (l,t.2.2.2.1)).2.toNat).2.1,.nil):=by unfold fJ n9;rw[if_pos h]
def y9{l:List (D aB)}{b:List Int}{t:D bD}(h:(dY (l,t.2.2.2.1)).1<0)(hw:t.2.2.2.2.1=true):fJ l b t=(0,.nil):=by unfold fJ;rw[if_neg (by omega),if_pos hw]
def w5{l:List (D aB)}{b:List Int}{t:D bD}(h:(dY (l,t.2.2.2.1)).1<0)(hw:t.2.2.2.2.1=false):fJ l b t=(0,.no 6):=by unfold fJ;rw[if_neg (by omega),if_neg (by simp[hw])]
def w6{l:List (D aB)}{b:List Int}(t:D bD)(hm:jN l)(hl:b.length=l.length)(hb:pL b) : -2000000<=(fJ l b t).1/\(fJ l b t).1<=2000000:=by
 by_cases h:0<=(dY (l,t.2.2.2.1)).1
 ·have h1:=p3 hb hl h (yn h).1
  have h2:=Pg hm h;rw[B6 h];unfold Small at h2;dsimp only[D]at*;omega
 ·cases hw:t.2.2.2.2.1 with
  |true=>rw[y9 (by omega) hw];simp
  |false=>rw[w5 (by omega) hw];simp
def AH{l:List (D aB)}{b:List Int}{i:Int}{t:D bD}(h:t.2.1=(1:Int)):gT l b i t=kj b i t (nth (.int .i64) b i.toNat+t.2.2.1):=by unfold gT;rw[if_pos h];rfl
def yq{l:List (D aB)}{b:List Int}{i:Int}{t:D bD}(h:¬t.2.1=(1:Int))(hn:(fJ l b t).2.isNil=true):gT l b i t=kj b i t ((fJ l b t).1+t.2.2.1):=by unfold gT;rw[if_neg h,if_pos hn]
def Va{l:List (D aB)}{b:List Int}{i:Int}{t:D bD}(h:¬t.2.1=(1:Int))(hn:(fJ l b t).2.isNil=false):gT l b i t=(0,(fJ l b t).2):=by unfold gT;rw[if_neg h,if_neg (by simp[hn])]
def SI{b:List Int}{i n:Int}{t:D bD}(h:t.2.1=(3:Int))(hr:n-(nth (.int .i64) b i.toNat+t.1)< -500\/500<n-(nth (.int .i64) b i.toNat+t.1)):kj b i t n=(0,.no 7):=by
 unfold kj n9;rw[if_pos h,if_pos hr]
def Vb{b:List Int}{i n m:Int}{t:D bD}(h:t.2.1=(3:Int))(e:m=n-(nth (.int .i64) b i.toNat+t.1))(hr : -500<=m/\m<=500):kj b i t n=(m,.nil):=by
 unfold kj n9;rw[if_pos h,if_neg (by omega),e]
def Hb{b:List Int}{i n:Int}{t:D bD}(h:¬t.2.1=(3:Int))(hr:n< -2147483648\/2147483647<n):kj b i t n=(0,.no 7):=by
 unfold kj;rw[if_neg h,if_pos hr]
def Dj{b:List Int}{i n m:Int}{t:D bD}(h:¬t.2.1=(3:Int))(e:m=n)(hr : -2147483648<=n/\n<=2147483647):kj b i t n=(m,.nil):=by
 unfold kj;rw[if_neg h,if_neg (by omega),e]
def Told(e:aK):Prop:=ym e (jK e)=true
def En(b:List Int)(i n:Int)(t:D bD):Told (kj b i t n).2:=by
 unfold kj;split <;> split <;> rfl
def JO(l:List (D aB))(b:List Int)(t:D bD):Told (fJ l b t).2:=by
 unfold fJ;split
 ·rfl
 ·split <;> rfl
def SJ(l:List (D aB))(b:List Int)(i:Int)(t:D bD):Told (gT l b i t).2:=by
 unfold gT;split
 ·exact En _ _ _ _
 ·split
  ·exact En _ _ _ _
  ·exact JO _ _ _
def Hc(l:List (D aB))(b:List Int)(i:Nat):∀(ts:List (D bD)) (out:List Pt),Told (od l b i ts out).2
 |[],_=>rfl
 |t :: r,out=>by
  rw[od];split
  ·exact Hc l b i r _
  ·exact SJ _ _ _ _
def Hd(l:List (D aB))(b:List Int):∀(os:List (D aB)) (i:Nat) (out:List Pt),Told (nQ l b os i out).2
 |[],_,_=>rfl
 |o :: r,i,out=>by
  rw[nQ];unfold oB;split
  ·exact Hd l b r _ _
  ·exact Hc _ _ _ _ _
def He(x:List (D aB)×List Int):ym (iF x).2 (jK (iF x).2)=true:=by
 unfold iF;split
 ·rfl
 ·split
  ·exact Hd _ _ _ _ _
  ·rfl
def ib(n:Int):Bool:=decide (-2147483648<=n)&&decide (n<=2147483647)
def jw:List (List UInt8)->List (List UInt8)->Int
 |_,[]=>0
 |p,s :: r=>if aP s > 0 then aP s else if p.any (· == s)=true then 3 else jw (p++[s]) r
def kM:List Int->Int
 |[]=>0
 |n :: r=>if ib n=true then kM r else 1
def ic(n:Nat):List (D aS)->List (D aS)->Int
 |_,[]=>0
 |p,s :: r=>if aP s.1 > 0 then aP s.1 else if s.2.1<0\/s.2.1>=(n:Int)then 1 else if p.any (fun x=>x.1 == s.1)=true then 3 else ic n (p++[s]) r
def oe(a:Int):Option Int->Bool
 |some b=>decide (a<=b)
 |none=>false
def mX(n:Nat)(prev:Option Int)(t:D bD):Int:=
 if t.1<0\/t.1>=(n:Int)\/ib t.2.2.1=false then 1
 else if t.2.1<1\/t.2.1 > 3\/oe t.1 prev=true then 3
 else if t.2.1=1 then(if t.2.2.2.1≠[]\/t.2.2.2.2.1=true then 3 else 0)
 else aP t.2.2.2.1
def kO(n:Nat):Option Int->List (D bD)->Int
 |_,[]=>0
 |prev,t :: r=>if mX n prev t≠0 then mX n prev t else kO n (some t.1) r
def lY(o:D aB):Prop:=o.1.length > 4\/o.2.1.length<1\/o.2.1.length > 40\/o.2.2.1.length > 8\/o.2.2.2.1.length > 6
instance(o:D aB):Decidable (lY o):=by unfold lY;infer_instance
def dA(o:D aB):Int:=
 if lY o then 2 else if jw [] o.1≠0 then jw [] o.1 else if kM o.2.1≠0 then kM o.2.1
 else if ic o.2.1.length [] o.2.2.1≠0 then ic o.2.1.length [] o.2.2.1 else kO o.2.1.length none o.2.2.2.1
def ig{t:Ty}{l:List (D t)}{i:Nat}(h:i<l.length):l.take (i+1)=l.take i++[nth t l i]:=by
 rw[dx];congr 1;unfold nth;simp[h]
def w7(n:Nat):∀(l p:List (D aS)),0<=ic n p l
 |[],_=>az _
 |s :: r,p=>by
  unfold ic;split
  ·omega
  ·split
   ·decide
   ·split
    ·decide
    ·exact w7 n r _
structure kd (l:List (List UInt8)) (i:Nat):Prop where
 le:i<=l.length
 eq:jw (l.take i) (l.drop i)=jw [] l
def kd.zero(l:List (List UInt8)):kd l 0:=⟨ar _,rfl⟩
def kd.fault{l:List (List UInt8)}{i:Nat}(h:kd l i)(hi:i<l.length)(hf:aP (nth .str l i) > 0):jw [] l=aP (nth .str l i):=by
 rw[<-h.eq,iG (t:=.str) hi];unfold jw;rw[if_pos hf]
def kd.dup{l:List (List UInt8)}{i:Nat}(h:kd l i)(hi:i<l.length)(hf:aP (nth .str l i)<=0)(ha:(l.take i).any (· == nth .str l i)=true):jw [] l=3:=by
 rw[<-h.eq,iG (t:=.str) hi];unfold jw;rw[if_neg (by omega),if_pos ha]
def kd.next{l:List (List UInt8)}{i:Nat}(h:kd l i)(hi:i<l.length)(hf:aP (nth .str l i)<=0)(ha:(l.take i).any (· == nth .str l i)=false):kd l (i+1):=by
 refine⟨hi,?_⟩;rw[<-h.eq,iG (t:=.str) hi,ig (t:=.str) hi]
 conv=>rhs;unfold jw
 rw[if_neg (by omega),if_neg (by rw[ha];decide)]
def kd.done{l:List (List UInt8)}{i:Nat}(h:kd l i)(hi:¬i<l.length):jw [] l=0:=by
 rw[<-h.eq,b3 (by omega)];rfl
structure ly (l:List Int) (i:Nat):Prop where
 le:i<=l.length
 eq:kM (l.drop i)=kM l
def ly.zero(l:List Int):ly l 0:=⟨ar _,rfl⟩
def ly.fault{l:List Int}{i:Nat}(h:ly l i)(hi:i<l.length)(hf:ib (nth (.int .i64) l i)=false):kM l=1:=by
 rw[<-h.eq,iG (t:=.int .i64) hi];unfold kM;rw[if_neg (by rw[hf];decide)]
def ly.next{l:List Int}{i:Nat}(h:ly l i)(hi:i<l.length)(hf:ib (nth (.int .i64) l i)=true):ly l (i+1):=by
 refine⟨hi,?_⟩;rw[<-h.eq,iG (t:=.int .i64) hi]
 conv=>rhs;unfold kM
 rw[if_pos hf]
def ly.done{l:List Int}{i:Nat}(h:ly l i)(hi:¬i<l.length):kM l=0:=by
 rw[<-h.eq,b3 (by omega)];rfl
structure kP (n:Nat) (l:List (D aS)) (i:Nat):Prop where
 le:i<=l.length
 eq:ic n (l.take i) (l.drop i)=ic n [] l
def kP.zero(n:Nat)(l:List (D aS)):kP n l 0:=⟨ar _,rfl⟩
def kP.fault{n:Nat}{l:List (D aS)}{i:Nat}(h:kP n l i)(hi:i<l.length)(hf:aP (nth aS l i).1 > 0):ic n [] l=aP (nth aS l i).1:=by
 rw[<-h.eq,iG (t:=aS) hi];unfold ic;rw[if_pos hf]
def kP.out{n:Nat}{l:List (D aS)}{i:Nat}(h:kP n l i)(hi:i<l.length)(hf:aP (nth aS l i).1<=0)(ho:(nth aS l i).2.1<0\/(nth aS l i).2.1>=(n:Int)):ic n [] l=1:=by
 rw[<-h.eq,iG (t:=aS) hi];unfold ic;rw[if_neg (by omega),if_pos ho]
def kP.dup{n:Nat}{l:List (D aS)}{i:Nat}(h:kP n l i)(hi:i<l.length)(hf:aP (nth aS l i).1<=0)(ho:¬((nth aS l i).2.1<0\/(nth aS l i).2.1>=(n:Int)))
  (ha:(l.take i).any (fun x=>x.1 == (nth aS l i).1)=true):ic n [] l=3:=by
 rw[<-h.eq,iG (t:=aS) hi];unfold ic;rw[if_neg (by omega),if_neg ho,if_pos ha]
def kP.next{n:Nat}{l:List (D aS)}{i:Nat}(h:kP n l i)(hi:i<l.length)(hf:aP (nth aS l i).1<=0)(ho:¬((nth aS l i).2.1<0\/(nth aS l i).2.1>=(n:Int)))
  (ha:(l.take i).any (fun x=>x.1 == (nth aS l i).1)=false):kP n l (i+1):=by
 refine⟨hi,?_⟩;rw[<-h.eq,iG (t:=aS) hi,ig (t:=aS) hi]
 conv=>rhs;unfold ic
 rw[if_neg (by omega),if_neg ho,if_neg (by rw[ha];decide)]
def kP.done{n:Nat}{l:List (D aS)}{i:Nat}(h:kP n l i)(hi:¬i<l.length):ic n [] l=0:=by
 rw[<-h.eq,b3 (by omega)];rfl
def oC(l:List (D bD))(i:Nat):Option Int:=if i=0 then none else some (nth bD l (i-1)).1
structure nH (n:Nat) (l:List (D bD)) (i:Nat):Prop where
 le:i<=l.length
 eq:kO n (oC l i) (l.drop i)=kO n none l
def nH.zero(n:Nat)(l:List (D bD)):nH n l 0:=⟨ar _,rfl⟩
def nH.fault{n:Nat}{l:List (D bD)}{i:Nat}(h:nH n l i)(hi:i<l.length){f:Int}(hf:mX n (oC l i) (nth bD l i)=f)(h0:f≠0):kO n none l=f:=by
 rw[<-h.eq,iG (t:=bD) hi];unfold kO;rw[if_pos (by rw[hf];exact h0),hf]
def nH.next{n:Nat}{l:List (D bD)}{i:Nat}(h:nH n l i)(hi:i<l.length)(hf:mX n (oC l i) (nth bD l i)=0):nH n l (i+1):=by
 refine⟨hi,?_⟩;rw[<-h.eq,iG (t:=bD) hi]
 conv=>rhs;unfold kO
 rw[if_neg (by rw[hf];decide)];rfl
def nH.done{n:Nat}{l:List (D bD)}{i:Nat}(h:nH n l i)(hi:¬i<l.length):kO n none l=0:=by
 rw[<-h.eq,b3 (by omega)];rfl
def Hf{t:Ty}{l:List (D t)}{i j:Nat}{f:D t->Bool}(hj:j<i)(hi:i<=l.length)(h:f (nth t l j)=true):(l.take i).any f=true:=by
 rw[cw];refine⟨nth t l j,?_,h⟩;have:(l.take i)[j]?=some (nth t l j):=by
  rw[List.getElem?_take,if_pos hj];unfold nth;rw[List.getD_eq_getElem?_getD,List.getElem?_eq_getElem (by omega)];rfl
 exact br this
def Eo{t:Ty}{l:List (D t)}{i:Nat}{f:D t->Bool}(h:∀j,j<i->f (nth t l j)=false):(l.take i).any f=false:=by
 rw[cy];intro x hx;obtain⟨j,hj,rfl⟩:=dw hx;rw[bh]at hj;have:=h j (by omega);rw[List.getElem_take];have e:nth t l j=l[j]'(by omega):=by unfold nth;simp[show j<l.length by omega]
 rw[e]at this;rw[this];decide
def contains_of{l:List (List UInt8)}{s:List UInt8}{y:Int}(h:(y= -1/\∀j,j<l.length->nth .str l j≠s)\/(0<=y/\y.toNat<l.length/\nth .str l y.toNat=s)):decide (y>=0)=l.any (· == s):=by
 rcases h with⟨rfl,h⟩|⟨h1,h2,h3⟩
 ·have:=Eo (t:=.str) (l:=l) (i:=l.length) (f:=(· == s)) fun j hj=>by simpa using h j hj
  rw[cb]at this;rw[this];rfl
 ·have:=Hf (t:=.str) (l:=l) (i:=l.length) (f:=(· == s)) h2 (ak _) (by simpa using h3)
  rw[cb]at this;rw[this];simpa using h1
def JP{o:D aB}(h:lY o):dA o=2:=by unfold dA;rw[if_pos h]
def w8{o:D aB}(h:¬lY o){f:Int}(hf:jw [] o.1=f)(h0:f≠0):dA o=f:=by unfold dA;rw[if_neg h,if_pos (by rw[hf];exact h0),hf]
def Hg{o:D aB}(h:¬lY o)(h1:jw [] o.1=0){f:Int}(hf:kM o.2.1=f)(h0:f≠0):dA o=f:=by
 unfold dA;rw[if_neg h,if_neg (by rw[h1];decide),if_pos (by rw[hf];exact h0),hf]
def JQ{o:D aB}(h:¬lY o)(h1:jw [] o.1=0)(h2:kM o.2.1=0){f:Int}(hf:ic o.2.1.length [] o.2.2.1=f)(h0:f≠0):dA o=f:=by
 unfold dA;rw[if_neg h,if_neg (by rw[h1];decide),if_neg (by rw[h2];decide),if_pos (by rw[hf];exact h0),hf]
def JR{o:D aB}(h:¬lY o)(h1:jw [] o.1=0)(h2:kM o.2.1=0)(h3:ic o.2.1.length [] o.2.2.1=0){f:Int}(hf:kO o.2.1.length none o.2.2.2.1=f):dA o=f:=by
 unfold dA;rw[if_neg h,if_neg (by rw[h1];decide),if_neg (by rw[h2];decide),if_neg (by rw[h3];decide),hf]
abbrev aD:=List UInt8
def pM(a b:aD):Prop:=bu a b=true
def Hh(a:UInt8):¬a<a:=fun h=>by have:=dz.1 h;omega
def pw:∀a:aD,¬pM a a
 |[]=>fun h=>by cases h
 |a :: x=>fun h=>by
  unfold pM at h;simp only[bu,bq,decide_eq_true_eq,af]at h;rcases h with h|⟨_,h⟩
  ·exact Hh a h
  ·exact pw x h
def w9:∀{a b c:aD},pM a b->pM b c->pM a c
 |a,[],_,h,_=>by unfold pM at h;cases a <;> simp[bu]at h
 |_,_ :: _,[],_,h=>by unfold pM at h;simp[bu]at h
 |[],_ :: _,_ :: _,_,_=>rfl
 |a :: x,b :: y,c :: z,h1,h2=>by
  unfold pM at h1 h2 ⊢;simp only[bu,bq,decide_eq_true_eq,af,beq_iff_eq]at h1 h2 ⊢;rcases h1 with h1|⟨rfl,h1⟩
  ·rcases h2 with h2|⟨rfl,h2⟩
   ·left;rw[dz]at*;omega
   ·exact .inl h1
  ·rcases h2 with h2|⟨rfl,h2⟩
   ·exact .inl h2
   ·exact .inr ⟨rfl,w9 h1 h2⟩
def xa:∀{a b:aD},¬pM a b->¬pM b a->a=b
 |[],[],_,_=>rfl
 |[],_ :: _,h,_=>(h rfl).elim
 |_ :: _,[],_,h=>(h rfl).elim
 |a :: x,b :: y,h1,h2=>by
  unfold pM at h1 h2;simp only[bu,bq,decide_eq_true_eq,af,beq_iff_eq,not_or,not_and]at h1 h2;have hab:a=b:=by
   apply UInt8.toNat_inj.1;have h3:=h1.1;have h4:=h2.1;rw[dz]at h3 h4;omega
  subst hab;rw[xa (h1.2 rfl) (h2.2 rfl)]
def B7(a b:aD):Prop:=¬pM b a
def Hi(a:aD):B7 a a:=pw a
def Ep{a b:aD}(h:pM a b):B7 a b:=fun h'=>pw a (w9 h h')
def Ph{a b c:aD}(h1:B7 a b)(h2:B7 b c):B7 a c:=by
 intro h;by_cases hab:pM a b
 ·exact h2 (w9 h hab)
 ·have:=xa hab h1;subst this;exact h2 h
def xb{a b:aD}(h1:B7 a b)(h2:a≠b):pM a b:=aq fun h=>h2 (xa h h1)
abbrev Dk:=(Int×Bool×Unit)×(List (List UInt8)×(List (List UInt8)×(List (Int×List UInt8×Unit)×Unit)))
def xc(x:Int×Int):Int×Int:=(0,x.1*x.2)
def eH(s:List UInt8):List UInt8:=s++bb (64-s.length) 0
def stepOf(d:Dk):Dk×Int:=
 if d.1.2.1=true then(d,9)else if d.1.1=0 then(((-1,true,()),d.2),9)else(((if 0<d.1.1 then d.1.1-1 else d.1.1,false,()),d.2),0)
def bL(d:Dk)(at_:Int)(s:List UInt8):Dk×Int:=
 if at_<0\/(d.2.2.1.length:Int)<=at_\/64<s.length then(d,1)
 else if(stepOf d).2=0 then(((stepOf d).1.1,d.2.1,d.2.2.1.set at_.toNat (eH s),d.2.2.2.1++[(at_,eH s,())],()),0)else stepOf d
def qp(d:Dk)(at_:Int):List UInt8×Int:=
 if d.1.2.1=true then([],9)else if at_<0\/(d.2.2.1.length:Int)<=at_ then([],1)else(nth .str d.2.2.1 at_.toNat,0)
def bP(d:Dk):Dk×Int:=
 if(stepOf d).2=0 then(((stepOf d).1.1,d.2.2.1,d.2.2.1,[],()),0)else stepOf d
def Wy(d:Dk)(n:Int):Dk:=((Ma n (-1),d.1.2.1,()),d.2)
def Gc(k:Int)(i:Nat):Prop:=(dT .u64 ((b4 a7.bits (k.fdiv (2^(i % 64)))&&&b4 a7.bits 1).toNat:Int))=1
open Classical in
def kQ(k:Int)(wait:List (Int×List UInt8×Unit))(kept:List (List UInt8)):Nat->List (List UInt8)
 |0=>kept
 |n+1=>if Gc k n then(kQ k wait kept n).set (nth gR wait n).1.toNat (nth gR wait n).2.1 else kQ k wait kept n
def kX(d:Dk)(k:Int):Dk:=
 ((-1,false,()),kQ k d.2.2.2.1 d.2.1 d.2.2.2.1.length,kQ k d.2.2.2.1 d.2.1 d.2.2.2.1.length,[],())
def qX(n:Int):Dk:=((-1,false,()),bb n.toNat (eH []),bb n.toNat (eH []),[],())
def xe(k:Int)(wait:List (Int×List UInt8×Unit))(kept:List (List UInt8)):∀n,(kQ k wait kept n).length=kept.length
 |0=>rfl
 |n+1=>by unfold kQ;split <;> simp[xe k wait kept n]
def eV(d:Dk):(stepOf d).1.2=d.2:=by
 unfold stepOf;split
 ·rfl
 ·split <;> rfl
def ME(n:Nat):bytesOf (bb n 0)=bb n 0:=by
 unfold bytesOf;rw[List.map_replicate];rfl
def lz{a:Int}(h0:0<=a)(h:a<18446744073709551616):a7.wrap a=a:=
 x5 (by simp[dp,dq,dr,dt];omega)
def Hj{a:Int}(h0:0<=a)(h:a<18446744073709551616):(b4 a7.bits a).toNat=a.toNat:=by
 rw[BitVec.toNat_ofInt];show(a % (2^64:Nat)).toNat=a.toNat;rw[Int.emod_eq_of_lt h0 (by simpa using h)]
def SK{a x:Int}(hx:x=dT .u64 ((b4 a7.bits a&&&b4 a7.bits 4294967295).toNat:Int))(h0:0<=a)(h:a<4294967296):x=a:=by
 rw[BitVec.toNat_and,Hj h0 (by omega),Hj (by omega) (by omega)]at hx;rw[show(4294967295:Int).toNat=2^32-1 from rfl,Nat.and_two_pow_sub_one_eq_mod,Nat.mod_eq_of_lt (by omega),eu h0,lz h0 (by omega)]at hx;exact hx
def Hk{a x:Int}{n:Nat}(hx:x=a.fdiv (2^(min n a7.bits)))(hn:n=32)(h0:0<=a)(h:a<4294967296):x=0:=by
 subst hn;rw[show min 32 a7.bits=32 from rfl,Int.fdiv_eq_ediv_of_nonneg _ (by decide),Int.ediv_eq_zero_of_lt h0 (by simpa using h)]at hx;exact hx
def lZ(s:List UInt8)(n k:Nat):List (List UInt8):=bb k s++bb (n-k) []
def Hl{s:List UInt8}{n k:Nat}(h:k<=n):(lZ s n k).length=n:=by simp[lZ];omega
def MF{s:List UInt8}{n:Nat}(hn:0<n){k:Nat}(hk:k=1)(x:List (List UInt8))(hx:x=[s]):(bb n ([]:List UInt8)).take 0++x.take k++(bb n []).drop (0+k)=lZ s n 1:=by
 subst hk;subst hx;simp[lZ]
def Pj{s:List UInt8}{n k m:Nat}(hk:k+m<=n)(hm:m<=k):(lZ s n k).take k++((lZ s n k).take k).take m++(lZ s n k).drop (k+m)=lZ s n (k+m):=by
 have h1:(lZ s n k).take k=bb k s:=by
  unfold lZ;rw[List.take_append_of_le_length (by simp),cg (by simp)]
 rw[h1,List.take_replicate,c7 hm];unfold lZ;rw[List.drop_append,List.drop_of_length_le (by simp),ew,List.drop_replicate,List.length_replicate,<-List.replicate_append_replicate];rw[show n-k-(k+m-k)=n-(k+m) by omega]
def Pk{s:List UInt8}{n:Nat}:lZ s n n=bb n s:=by simp[lZ]
def aQ{n:Int}:(aI n).isNil=true↔n=0:=by
 unfold aI;split
 ·rename_i h;simp[h,aK.isNil]
 ·rename_i h;simp[h,aK.isNil]
def MG{d:Dk}{at_:Int}{s:List UInt8}(h:at_<0\/(d.2.2.1.length:Int)<=at_\/64<s.length):bL d at_ s=(d,1):=by unfold bL;rw[if_pos h]
def JS{d:Dk}{at_:Int}{s:List UInt8}(h:¬(at_<0\/(d.2.2.1.length:Int)<=at_\/64<s.length))(h2:¬(stepOf d).2=0):bL d at_ s=stepOf d:=by unfold bL;rw[if_neg h,if_neg h2]
def Pl{d:Dk}{at_:Int}{s:List UInt8}(h:¬(at_<0\/(d.2.2.1.length:Int)<=at_\/64<s.length))(h2:(stepOf d).2=0) :
  bL d at_ s=(((stepOf d).1.1,d.2.1,d.2.2.1.set at_.toNat (eH s),d.2.2.2.1++[(at_,eH s,())],()),0):=by unfold bL;rw[if_neg h,if_pos h2]
def Vc{t:Ty}{l:List (D t)}{i:Nat}{x:D t}(h:i<l.length):nth t (l.set i x) i=x:=by
 unfold nth;simp[List.getD_eq_getElem?_getD,h]
def Hm{a b:List (List UInt8)}(h:a.length=b.length):a.take 0++b.take (min b.length a.length)++a.drop (0+min b.length a.length)=b:=by
 rw[h,Nat.min_self];simp[h]
def SL{k:Int}{i n:Nat}{x y:Int}(hx:x=k.fdiv (2^(min n a7.bits)))(hn:n=i % 64)(hy:y=dT .u64 ((b4 a7.bits x&&&b4 a7.bits 1).toNat:Int)):y=1↔Gc k i:=by
 subst hn;have:min (i % 64) a7.bits=i % 64:=c7 (by show i % 64<=64;omega);rw[this]at hx;subst hx;subst hy;exact Iff.rfl
def SM{k:Int}{wait:List (Int×List UInt8×Unit)}{kept:List (List UInt8)}{n:Nat}(h:Gc k n):(kQ k wait kept n).set (nth gR wait n).1.toNat (nth gR wait n).2.1=kQ k wait kept (n+1):=by
 rw[kQ,if_pos h]
def Pm{k:Int}{wait:List (Int×List UInt8×Unit)}{kept:List (List UInt8)}{n:Nat}(h:¬Gc k n):kQ k wait kept n=kQ k wait kept (n+1):=by
 rw[kQ,if_neg h]
def JT{d:Dk}(h:d.1.2.1=true):stepOf d=(d,9):=by unfold stepOf;rw[if_pos h]
def JU{d:Dk}(h:d.1.2.1=false)(h0:d.1.1=0):stepOf d=(((-1,true,()),d.2),9):=by unfold stepOf;rw[if_neg (by rw[h];decide),if_pos h0]
def Pn{d:Dk}(h:d.1.2.1=false)(h0:¬d.1.1=0)(hf : -1<=d.1.1):stepOf d=(((if(-1:Int) > d.1.1-1 then(-1:Int)else d.1.1-1,d.1.2.1,()),d.2),0):=by
 unfold stepOf;rw[if_neg (by rw[h];decide),if_neg h0,h];by_cases c:0<d.1.1
 ·rw[if_pos c,if_neg (by omega)]
 ·rw[if_neg c,if_pos (by omega),show d.1.1= -1 by omega]
def MH{d:Dk}{a:Int}(h:d.1.2.1=true):qp d a=([],9):=by unfold qp;rw[if_pos h]
def Po{d:Dk}{a:Int}(h:d.1.2.1=false)(h2:a<0\/(d.2.2.1.length:Int)<=a):qp d a=([],1):=by unfold qp;rw[if_neg (by rw[h];decide),if_pos h2]
def SN{d:Dk}{a:Int}(h:d.1.2.1=false)(h2:¬(a<0\/(d.2.2.1.length:Int)<=a)):qp d a=(nth .str d.2.2.1 a.toNat,0):=by unfold qp;rw[if_neg (by rw[h];decide),if_neg h2]
def Er{d:Dk}(h:(stepOf d).2=0):bP d=(((stepOf d).1.1,d.2.2.1,d.2.2.1,[],()),0):=by unfold bP;rw[if_pos h]
def zA{d:Dk}(h:¬(stepOf d).2=0):bP d=stepOf d:=by unfold bP;rw[if_neg h]
def Ux(i:Nat):cc ((i:Int).tmod 64)=i % 64:=by rw[ey (by omega)];omega
def lA{a:Int}(h0 : -9223372036854775808<=a)(h:a<9223372036854775808):IntKind.i64.wrap a=a:=
 x5 (by rw[rv];unfold aJ;omega)
end Go.Mrl
namespace Go.Mrl
open Go.Vg
def r5(e:D aC):Prop:=e.1.length<=20/\e.2.1.length<=8/\e.2.2.1.length<=40/\∀i,i<e.2.1.length->(nth aG e.2.1 i).1.length<=20
def xf(a:D dC):Prop:=a.2.1.length<=100/\a.2.2.1.length<=1300/\r5 a.2.2.2.2.2.1
def rA(l:List (D dC))(m:Int):Prop:=(l.length:Int)<=m/\∀i,i<l.length->xf (nth dC l i)
end Go.Mrl

namespace Go.Mrl
open Go.Vg
@[reducible] def cK:Ty:=.prod .str (.prod (.int .i64) .unit)
abbrev FE:=aD×(aD×Int×Unit)×Int×Unit
abbrev cX:=(Int×Unit)×(List FE×Int×Unit)×Unit
def qq(y:FE):Int:=y.2.2.1
def px(y:FE):aD:=y.1
def aO(x:cX)(s:aD):aD×Int×Int:=
 if cY cK x.2.1.1 s=true then((iV cK x.2.1.1 s).1,(iV cK x.2.1.1 s).2.1,0)else([],0,5)
def cL(x:cX)(s t:aD):cX×Int:=
 if ¬aP s=0 then(x,aP s)else if 1200<t.length then(x,2)
 else if(cY cK x.2.1.1 s=false/\x.2.1.1.length=6)\/x.1.1=1000000 then(x,8)
 else(((x.1.1+1,()),(eS cK x.2.1.1 s (t,x.1.1+1,()) x.2.1.2.1,mR cK x.2.1.1 s x.2.1.2.1,()),()),0)
def fD(x:cX)(s:aD):cX×Int:=
 if cY cK x.2.1.1 s=true then((x.1,(fQ cK x.2.1.1 s,x.2.1.2.1,()),()),0)else(x,5)
def qt:cX:=((0,()),([],0,()),())
def lL{x:cX}{s:aD}(h:cY cK x.2.1.1 s=false):aO x s=([],0,5):=by unfold aO;rw[if_neg (by rw[h];simp)]
def py{x:cX}{s:aD}(h:cY cK x.2.1.1 s=true):aO x s=((iV cK x.2.1.1 s).1,(iV cK x.2.1.1 s).2.1,0):=by unfold aO;rw[if_pos h]
def xg{x:cX}{s t:aD}(h:¬aP s=0):cL x s t=(x,aP s):=by unfold cL;rw[if_pos h]
def xh{x:cX}{s t:aD}(h:aP s=0)(h1:1200<t.length):cL x s t=(x,2):=by unfold cL;rw[if_neg (by simp[h]),if_pos h1]
def xi{x:cX}{s t:aD}(h:aP s=0)(h1:¬1200<t.length)(h2:(cY cK x.2.1.1 s=false/\x.2.1.1.length=6)\/x.1.1=1000000):cL x s t=(x,8):=by unfold cL;rw[if_neg (by simp[h]),if_neg h1,if_pos h2]
def B8{x:cX}{s t:aD}(h:aP s=0)(h1:¬1200<t.length)(h2:¬((cY cK x.2.1.1 s=false/\x.2.1.1.length=6)\/x.1.1=1000000)) :
  cL x s t=(((x.1.1+1,()),(eS cK x.2.1.1 s (t,x.1.1+1,()) x.2.1.2.1,mR cK x.2.1.1 s x.2.1.2.1,()),()),0):=by unfold cL;rw[if_neg (by simp[h]),if_neg h1,if_neg h2]
def mw{x:cX}{s:aD}(h:cY cK x.2.1.1 s=false):fD x s=(x,5):=by unfold fD;rw[if_neg (by rw[h];simp)]
def lB{x:cX}{s:aD}(h:cY cK x.2.1.1 s=true):fD x s=((x.1,(fQ cK x.2.1.1 s,x.2.1.2.1,()),()),0):=by unfold fD;rw[if_pos h]
theorem Es{α:Type}[DecidableEq α]:∀{a b:List α},a.Nodup->(∀y∈a,y∈b)->a.length<=b.length
 |[],_,_,_=>by simp
 |x :: a,b,hn,hs=>by
  have hn':=ch.1 hn;have h1:(b.erase x).length=b.length-1:=List.length_erase_of_mem (hs x (by simp));have h2:0<b.length:=List.length_pos_of_mem (hs x (by simp));have:=Es (b:=b.erase x) hn'.2 fun y hy=>(List.mem_erase_of_ne (fun(e:y=x)=>hn'.1 (by rw[<-e];exact hy))).2 (hs y (by simp[hy]))
  simp only[cj];omega
abbrev RF:=aD×aD×Int×Unit
abbrev RS:=List RF×Int×Unit
def yr(y:RF):aD:=y.1
def km(s:aD)(y:RF):Bool:=!(y.1 == s)
def rj:List RF->aD->aD×Int×Int
 |[],_=>([],0,5)
 |y :: r,s=>if y.1=s then(y.2.1,y.2.2.1,0)else rj r s
def tu(s:aD)(e:RF):List RF->List RF
 |[]=>[e]
 |y :: r=>if(bu s y.1 || s == y.1)=true then e :: (y :: r).filter (km s)else y :: tu s e r
def ub(x:RS)(s t:aD):RS×Int:=
 if ¬aP s=0 then(x,aP s)else if 1200<t.length then(x,2)
 else if(0<(rj x.1 s).2.2/\x.1.length=6)\/x.2.1=1000000 then(x,8)
 else((tu s (s,t,x.2.1+1,()) x.1,x.2.1+1,()),0)
def yt(x:RS)(s:aD):RS×Int:=if(x.1.filter (km s)).length=x.1.length then(x,5)else((x.1.filter (km s),x.2),0)
def sM(y:FE):RF:=(y.1,y.2.1.1,y.2.1.2.1,())
def uc(L:List RF):Prop:=L.Pairwise fun a b=>pM a.1 b.1
structure fU (x:cX) (r:RS):Prop where
 now:r.2.1=x.1.1
 lo:0<=x.1.1
 hi:x.1.1<=1000000
 len:x.2.1.1.length<=6
 born:(x.2.1.1.map qq).Nodup
 old:∀y∈x.2.1.1,qq y<x.2.1.2.1
 Hn:uc r.1
 perm:r.1.Perm (x.2.1.1.map sM)
def fU.new:fU qt ([],0,()):=⟨rfl,az _,by decide,by decide,by decide,fun y hy=>by simp[qt]at hy,.nil,.refl _⟩
def xj{L:List RF}(h:uc L):(L.map yr).Nodup:=by
 unfold List.Nodup;rw[List.pairwise_map];exact h.imp fun hlt e=>by unfold yr at e;rw[e]at hlt;exact pw _ hlt
def fU.names{x:cX}{r:RS}(h:fU x r):(x.2.1.1.map px).Nodup:=by
 have h1:=(h.perm.map yr).nodup_iff.1 (xj h.Hn);rw[dn]at h1;exact h1
def Et:∀{L:List RF} {s:aD},(L.map yr).Nodup->∀y∈L,y.1=s->rj L s=(y.2.1,y.2.2.1,0)
 |[],_,_,_,h,_=>by simp at h
 |z :: r,s,hn,y,hy,e=>by
  simp only[aj,ch]at hn;unfold rj;rcases ag.1 hy with rfl|hy
  ·rw[if_pos e]
  ·have:¬z.1=s:=fun e2=>hn.1 (by rw[show yr z=yr y from e2.trans e.symm];exact bw hy)
   rw[if_neg this];exact Et hn.2 y hy e
def Ho:∀{L:List RF} {s:aD},(∀y∈L,¬y.1=s)->rj L s=([],0,5)
 |[],_,_=>rfl
 |z :: r,s,h=>by
  unfold rj;rw[if_neg (h z (by simp))];exact Ho fun y hy=>h y (by simp[hy])
def l5:∀{es:List FE} {s:aD},cY cK es s=true↔∃y∈es,y.1=s
 |[],_=>by simp[cY]
 |z :: r,s=>by
  unfold cY;by_cases c:z.1=s
  ·simp[c]
  ·rw[if_neg c,l5];simp[c]
def vb:∀{es:List FE} {s:aD},(es.map px).Nodup->∀y∈es,y.1=s->iV cK es s=y.2.1
 |[],_,_,_,h,_=>by simp at h
 |z :: r,s,hn,y,hy,e=>by
  simp only[aj,ch]at hn;unfold iV;rcases ag.1 hy with rfl|hy
  ·rw[if_pos e]
  ·have:¬z.1=s:=fun e2=>hn.1 (by rw[show px z=px y from e2.trans e.symm];exact bw hy)
   rw[if_neg this];exact vb hn.2 y hy e
def fU.read{x:cX}{r:RS}(h:fU x r)(s:aD):aO x s=rj r.1 s:=by
 by_cases c:cY cK x.2.1.1 s=true
 ·obtain⟨y,hy,e⟩:=l5.1 c
  rw[py c,vb h.names y hy e];exact(Et (xj h.Hn) (sM y) (h.perm.mem_iff.2 (bw hy)) e).symm
 ·rw[lL (by simpa using c)]
  refine(Ho fun y hy e=>c ?_).symm;obtain⟨z,hz,rfl⟩:=bf.1 (h.perm.mem_iff.1 hy);exact l5.2 ⟨z,hz,e⟩
def lM{s:aD}{y:RF}:km s y=true↔¬y.1=s:=by simp[km]
def Hp{s:aD}{e:RF}:∀{L:List RF} {y:RF},y∈tu s e L->y=e\/y∈L
 |[],y,h=>by simp[tu]at h;exact .inl h
 |z :: r,y,h=>by
  unfold tu at h;split at h
  ·rcases ag.1 h with h|h
   ·exact .inl h
   ·exact .inr (ez.1 h).1
  ·rcases ag.1 h with rfl|h
   ·exact .inr (by simp)
   ·rcases Hp h with h|h
    ·exact .inl h
    ·exact .inr (by simp[h])
def not_le{s a:aD}(h:¬(bu s a || s == a)=true):pM a s:=by
 simp at h;exact xb (a:=a) (b:=s) (by unfold B7 pM;rw[h.1];simp) (fun e=>h.2 e.symm)
def zB{s:aD}{e:RF}(he:e.1=s):∀{L:List RF},uc L->uc (tu s e L)
 |[],_=>by simp[tu,uc]
 |z :: r,h=>by
  have h':=c8.1 h;unfold tu;split
  ·rename_i c
   refine c8.2 ⟨fun y hy =>?_,h.filter _⟩;have hy':=ez.1 hy;have hn:=lM.1 hy'.2;have hz:B7 s z.1:=by
    simp at c;rcases c with c|rfl
    ·exact Ep c
    ·exact Hi _
   have hzy:B7 z.1 y.1:=by
    rcases ag.1 hy'.1 with e2|hy2
    ·rw[e2];exact Hi _
    ·exact Ep (h'.1 y hy2)
   rw[he];exact xb (Ph hz hzy) (fun e2=>hn e2.symm)
  ·rename_i c
   have hlt:=not_le c;refine c8.2 ⟨fun y hy =>?_,zB he h'.2⟩;rcases Hp hy with rfl|hy
   ·rw[he];exact hlt
   ·exact h'.1 y hy
def filter_all{s:aD}:∀{L:List RF},(∀y∈L,¬y.1=s)->L.filter (km s)=L:=fun h=>List.filter_eq_self.2 fun y hy=>lM.2 (h y hy)
def Eu{s:aD}{e:RF}:∀{L:List RF},uc L->(tu s e L).Perm (e :: L.filter (km s))
 |[],_ =>.refl _
 |z :: r,h=>by
  have h':=c8.1 h;unfold tu;split
  ·exact .refl _
  ·rename_i c
   have hlt:=not_le c;have hz:km s z=true:=lM.2 fun e=>by rw[e]at hlt;exact pw _ hlt
   rw[ck,if_pos hz];exact((Eu h'.2).cons z).trans (e8 e z _)
def xk{s:aD}{v:aD×Int×Unit}{c:Int}:∀{es:List FE},(es.map px).Nodup->((eS cK es s v c).map sM).Perm ((s,v.1,v.2.1,()) :: (es.map sM).filter (km s))
 |[],_ =>.refl _
 |z :: r,hn=>by
  simp only[aj,ch]at hn;unfold eS;by_cases e:z.1=s
  ·rw[if_pos e]
   have h1:km s (sM z)=false:=by
    cases h:km s (sM z)with
    |false=>rfl
    |true=>exact absurd e (lM.1 h)
   rw[aj,aj,ck,if_neg (by rw[h1];simp),filter_all]
   ·exact .refl _
   ·intro y hy e2
    obtain⟨z2,hz2,rfl⟩:=bf.1 hy;exact hn.1 (by rw[show px z=px z2 from e.trans (show s=z2.1 from e2.symm)];exact bw hz2)
  ·rw[if_neg e]
   have h1:km s (sM z)=true:=lM.2 e;rw[aj,aj,ck,if_pos h1];exact((xk hn.2).cons (sM z)).trans (e8 _ _ _)
def sN{s:aD}{v:aD×Int×Unit}{c:Int}:∀{es:List FE},(eS cK es s v c).map qq=if cY cK es s=true then es.map qq else es.map qq++[c]
 |[]=>rfl
 |z :: r=>by
  unfold eS cY;by_cases e:z.1=s
  ·rw[if_pos e,if_pos e];rfl
  ·rw[if_neg e,if_neg e,aj,sN]
   split <;> rfl
def Hq{s:aD}:∀{es:List FE},(es.map px).Nodup->(fQ cK es s).map sM=(es.map sM).filter (km s)
 |[],_=>rfl
 |z :: r,hn=>by
  simp only[aj,ch]at hn;unfold fQ;by_cases e:z.1=s
  ·have h1:¬km s (sM z)=true:=fun h=>lM.1 h e
   rw[if_pos e,aj,ck,if_neg h1,filter_all];intro y hy e2;obtain⟨z2,hz2,rfl⟩:=bf.1 hy;exact hn.1 (by rw[show px z=px z2 from e.trans (show s=z2.1 from e2.symm)];exact bw hz2)
  ·have h1:km s (sM z)=true:=lM.2 e
   rw[if_neg e,aj,aj,ck,if_pos h1,Hq hn.2]
def p4{s:aD}:∀{es:List FE},(fQ cK es s).Sublist es
 |[] =>.refl _
 |z :: r=>by
  unfold fQ;split
  ·exact List.sublist_cons_self _ _
  ·exact p4.cons_cons _
def fU.has{x:cX}{r:RS}(h:fU x r)(s:aD):0<(rj r.1 s).2.2↔cY cK x.2.1.1 s=false:=by
 rw[<-h.read s];cases c:cY cK x.2.1.1 s with
 |true=>rw[py c];simp
 |false=>rw[lL c];simp
def fU.write{x:cX}{r:RS}(h:fU x r)(s t:aD):fU (cL x s t).1 (ub r s t).1/\(cL x s t).2=(ub r s t).2:=by
 have hlen:r.1.length=x.2.1.1.length:=by rw[h.perm.length_eq,ec]
 have hc:((cY cK x.2.1.1 s=false/\x.2.1.1.length=6)\/x.1.1=1000000)↔((0<(rj r.1 s).2.2/\r.1.length=6)\/r.2.1=1000000):=by rw[h.has,hlen,h.now]
 by_cases h1:aP s=0
 ·by_cases h2:1200<t.length
  ·rw[xh h1 h2]
   unfold ub;rw[if_neg (by simp[h1]),if_pos h2];exact⟨h,rfl⟩
  ·by_cases h3:(cY cK x.2.1.1 s=false/\x.2.1.1.length=6)\/x.1.1=1000000
   ·rw[xi h1 h2 h3]
    unfold ub;rw[if_neg (by simp[h1]),if_neg h2,if_pos (hc.1 h3)];exact⟨h,rfl⟩
   ·rw[B8 h1 h2 h3]
    unfold ub;rw[if_neg (by simp[h1]),if_neg h2,if_neg (fun h'=>h3 (hc.2 h'))];refine⟨⟨by rw[h.now],by have:=h.lo;simp only;omega,by have:=h.hi;simp only;omega,?_,?_,?_,zB (s:=s) (e:=(s,t,r.2.1+1,())) rfl h.Hn,?_⟩,rfl⟩
    ·have hp:=(xk (s:=s) (v:=(t,x.1.1+1,())) (c:=x.2.1.2.1) h.names).length_eq
     have hb:=congrArg bj (sN (s:=s) (v:=(t,x.1.1+1,())) (c:=x.2.1.2.1) (es:=x.2.1.1));simp only[ec]at hb;show(eS cK x.2.1.1 s (t,x.1.1+1,()) x.2.1.2.1).length<=6;rw[hb];have:=h.len;cases c:cY cK x.2.1.1 s with
     |true=>simpa using this
     |false=>
      have:¬x.2.1.1.length=6:=fun e=>h3 (.inl ⟨c,e⟩)
      simp;omega
    ·show((eS cK x.2.1.1 s (t,x.1.1+1,()) x.2.1.2.1).map qq).Nodup
     rw[sN];split
     ·exact h.born
     ·rw[e9]
      refine⟨h.born,by simp,fun a ha b hb e =>?_⟩;simp at hb;obtain⟨y,hy,rfl⟩:=bf.1 ha;have:=h.old y hy;omega
    ·intro y hy
     have hy':qq y∈(eS cK x.2.1.1 s (t,x.1.1+1,()) x.2.1.2.1).map qq:=bw hy;rw[sN]at hy';show qq y<mR cK x.2.1.1 s x.2.1.2.1;unfold mR;split at hy'
     ·rename_i c
      rw[if_pos c];obtain⟨z,hz,e⟩:=bf.1 hy';rw[<-e];exact h.old z hz
     ·rename_i c
      rw[if_neg c];rcases au.1 hy' with hy'|hy'
      ·obtain⟨z,hz,e⟩:=bf.1 hy'
       have:=h.old z hz;omega
      ·simp at hy';omega
    ·refine(Eu h.Hn).trans ?_
     rw[h.now];exact((h.perm.filter _).cons _).trans (xk (v:=(t,x.1.1+1,())) (c:=x.2.1.2.1) h.names).symm
 ·rw[xg h1]
  unfold ub;rw[if_pos h1];exact⟨h,rfl⟩
def fU.remove{x:cX}{r:RS}(h:fU x r)(s:aD):fU (fD x s).1 (yt r s).1/\(fD x s).2=(yt r s).2:=by
 have hp:(r.1.filter (km s)).Perm ((fQ cK x.2.1.1 s).map sM):=by rw[Hq h.names];exact h.perm.filter _
 cases c:cY cK x.2.1.1 s with
 |false=>
  have hall:r.1.filter (km s)=r.1:=filter_all fun y hy e=>by
   obtain⟨z,hz,rfl⟩:=bf.1 (h.perm.mem_iff.1 hy);have:=l5.2 ⟨z,hz,e⟩;rw[c]at this;cases this
  rw[mw c];unfold yt;rw[if_pos (by rw[hall])];exact⟨h,rfl⟩
 |true=>
  obtain⟨y,hy,e⟩:=l5.1 c;have hlt:(r.1.filter (km s)).length<r.1.length:=List.length_filter_lt_length_iff_exists.2 ⟨sM y,h.perm.mem_iff.2 (bw hy),by rw[lM];exact fun h=>h e⟩;rw[lB c];unfold yt;rw[if_neg (by omega)];refine⟨⟨h.now,h.lo,h.hi,b5 p4.length_le h.len,(p4.map qq).nodup h.born,fun y hy=>h.old y (p4.subset hy),List.Pairwise.filter _ h.Hn,hp⟩,rfl⟩
def r6:aD:=[119,114,105,116,101]
def fU.pre{x:cX}{r:RS}(h:fU x r):x.2.1.1.length<=6/\0<=x.1.1/\x.1.1<=1000000:=⟨h.len,h.lo,h.hi⟩
def ud:aD:=[114,101,109,111,118,101]
def mJ(x:cX)(a:D dC):cX:=if a.1=r6 then(cL x a.2.1 a.2.2.1).1 else if a.1=ud then(fD x a.2.1).1 else x
def jr(x:cX)(l:List (D dC)):cX:=l.foldl mJ x
def ve{x:cX}{l:List (D dC)}{i:Nat}(h:i<l.length):jr x (l.take (i+1))=mJ (jr x (l.take i)) (nth dC l i):=by rw[lK (t:=dC) h];simp[jr]
def JV{x:cX}{a:D dC}(h:a.1=r6):mJ x a=(cL x a.2.1 a.2.2.1).1:=if_pos h
def Hr{x:cX}{a:D dC}(h:¬a.1=r6)(h2:a.1=ud):mJ x a=(fD x a.2.1).1:=by unfold mJ;rw[if_neg h,if_pos h2]
def MI{x:cX}{a:D dC}(h:¬a.1=r6)(h2:¬a.1=ud):mJ x a=x:=by unfold mJ;rw[if_neg h,if_neg h2]
structure dE (x:cX):Prop where
 fV:∃r,fU x r
 MJ:∀y∈x.2.1.1,y.2.1.2.1<=x.1.1
def dE.new:dE qt:=⟨⟨_,fU.new⟩,fun y hy=>by simp[qt]at hy⟩
def Hs{s:aD}{v:aD×Int×Unit}{c:Int}:∀{es:List FE} {y:FE},y∈eS cK es s v c->y.2.1=v\/y∈es
 |[],y,h=>by simp[eS]at h;subst h;exact .inl rfl
 |z :: r,y,h=>by
  unfold eS at h;split at h
  ·rcases ag.1 h with rfl|h
   ·exact .inl rfl
   ·exact .inr (by simp[h])
  ·rcases ag.1 h with rfl|h
   ·exact .inr (by simp)
   ·rcases Hs h with h|h
    ·exact .inl h
    ·exact .inr (by simp[h])
def mj(x:cX)(s t:aD):((cL x s t).1=x/\¬(cL x s t).2=0)\/
  ((cL x s t).1=((x.1.1+1,()),(eS cK x.2.1.1 s (t,x.1.1+1,()) x.2.1.2.1,mR cK x.2.1.1 s x.2.1.2.1,()),())/\(cL x s t).2=0):=by
 unfold cL;split
 ·rename_i h;exact .inl ⟨rfl,h⟩
 ·split
  ·exact .inl ⟨rfl,by simp⟩
  ·split
   ·exact .inl ⟨rfl,by simp⟩
   ·exact .inr ⟨rfl,rfl⟩
def dE.write{x:cX}(h:dE x)(s t:aD):dE (cL x s t).1/\x.1.1<=(cL x s t).1.1.1:=by
 obtain⟨r,hr⟩:=h.fV;have hg:=(hr.write s t).1;rcases mj x s t with⟨e,_⟩|⟨e,_⟩
 ·rw[e];exact⟨h,az _⟩
 ·rw[e]at hg ⊢
  refine⟨⟨⟨_,hg⟩,fun y hy =>?_⟩,by simp only;omega⟩;rcases Hs hy with hy|hy
  ·rw[hy];exact az _
  ·have:=h.MJ y hy;simp only;omega
def dE.remove{x:cX}(h:dE x)(s:aD):dE (fD x s).1/\x.1.1<=(fD x s).1.1.1:=by
 obtain⟨r,hr⟩:=h.fV;have hg:=(hr.remove s).1;cases c:cY cK x.2.1.1 s with
 |false=>rw[mw c];exact⟨h,az _⟩
 |true=>
  rw[lB c]at hg ⊢;exact⟨⟨⟨_,hg⟩,fun y hy=>h.MJ y (p4.subset hy)⟩,az _⟩
def dE.mJ{x:cX}(h:dE x)(a:D dC):dE (mJ x a)/\x.1.1<=(Mrl.mJ x a).1.1:=by
 unfold Mrl.mJ;split
 ·exact h.write _ _
 ·split
  ·exact h.remove _
  ·exact⟨h,az _⟩
def dE.done:∀(l:List (D dC)) {x:cX},dE x->dE (jr x l)
 |[],_,h=>h
 |a :: l,_,h=>dE.done l (h.mJ a).1
def MK{x:cX}(h:dE x){s:aD}(hn:(aI (aO x s).2.2).isNil=true):(aO x s).2.1<=x.1.1:=by
 have hc:=aQ.1 hn;cases c:cY cK x.2.1.1 s with
 |false=>rw[lL c]at hc;simp at hc
 |true=>
  obtain⟨r,hr⟩:=h.fV;obtain⟨y,hy,e⟩:=l5.1 c;rw[py c,vb hr.names y hy e];exact h.MJ y hy
def r7{s k:aD}{v:aD×Int×Unit}{c:Int}:∀{es:List FE},cY cK (eS cK es s v c) k=(decide (k=s) || cY cK es k)/\iV cK (eS cK es s v c) k=if k=s then v else iV cK es k
 |[]=>by
  by_cases h:s=k
  ·subst h;simp[eS,cY,iV]
  ·have h':¬k=s:=fun e=>h e.symm
   simp[eS,cY,iV,h,h']
 |z :: r=>by
  obtain⟨i1,i2⟩:=r7 (s:=s) (k:=k) (v:=v) (c:=c) (es:=r);unfold eS;by_cases e:z.1=s
  ·rw[if_pos e]
   by_cases h:s=k
   ·subst h;simp[cY,iV]
   ·have h':¬k=s:=fun e=>h e.symm
    have h2:¬z.1=k:=fun e2=>h (e.symm.trans e2)
    simp[cY,iV,h,h',h2]
  ·rw[if_neg e]
   by_cases h:z.1=k
   ·have h':¬k=s:=fun e2=>e (h.trans e2)
    simp[cY,iV,h,h']
   ·simp only[cY,iV,if_neg h];exact⟨i1,i2⟩
def ML{x:cX}{s k t:aD}(h:¬k=s):aO (cL x s t).1 k=aO x k:=by
 rcases mj x s t with⟨e,_⟩|⟨e,_⟩
 ·rw[e]
 ·rw[e]
  unfold aO;simp only[(r7 (s:=s) (k:=k) (v:=(t,x.1.1+1,())) (c:=x.2.1.2.1) (es:=x.2.1.1)).1,(r7 (s:=s) (k:=k) (v:=(t,x.1.1+1,())) (c:=x.2.1.2.1) (es:=x.2.1.1)).2,h,decide_false,Bool.false_or,if_false]
def Pp{x:cX}{s t:aD}(h:(aI (cL x s t).2).isNil=true):aO (cL x s t).1 s=(t,x.1.1+1,0):=by
 rcases mj x s t with⟨_,e⟩|⟨e,_⟩
 ·exact absurd (aQ.1 h) e
 ·rw[e]
  unfold aO;simp only[(r7 (s:=s) (k:=s) (v:=(t,x.1.1+1,())) (c:=x.2.1.2.1) (es:=x.2.1.1)).1,(r7 (s:=s) (k:=s) (v:=(t,x.1.1+1,())) (c:=x.2.1.2.1) (es:=x.2.1.1)).2];simp
def Pq{x:cX}{s t:aD}(h:(aI (cL x s t).2).isNil=false):(cL x s t).1=x:=by
 rcases mj x s t with⟨e,_⟩|⟨_,e⟩
 ·exact e
 ·rw[e]at h;cases h
def dE.pre{x:cX}(h:dE x):x.2.1.1.length<=6/\0<=x.1.1/\x.1.1<=1000000:=let⟨_,hr⟩:=h.fV;hr.pre
def _root_.Go.Vg.Ht:List UInt8->UInt8
 |c :: _=>c
 |[]=>0
def nI(c:UInt8):List aD->aD
 |[]=>[]
 |[x]=>x
 |x :: y :: r=>x++c :: nI c (y :: r)
def parts(c:UInt8):aD->List aD
 |[]=>[[]]
 |b :: r=>if b=c then[] :: parts c r else match parts c r with
  |h :: t=>(b :: h) :: t
  |[]=>[[b]]
def AI(c:UInt8):∀s:aD,parts c s≠[]
 |[]=>by simp[parts]
 |b :: r=>by
  unfold parts;split
  ·simp
  ·split <;> simp
def ml{c b:UInt8}{r:aD}(h:b≠c):∃x t,parts c r=x :: t/\parts c (b :: r)=(b :: x) :: t:=by
 cases hp:parts c r with
 |nil=>exact absurd hp (AI c r)
 |cons x t=>
  refine⟨x,t,rfl,?_⟩
  conv=>lhs;unfold parts
  rw[if_neg h,hp]
def oD{c:UInt8}{r:aD}:parts c (c :: r)=[] :: parts c r:=by
 conv=>lhs;unfold parts
 rw[if_pos rfl]
def lN{c:UInt8}:∀{x:aD},c∉x->parts c x=[x]
 |[],_=>rfl
 |b :: r,h=>by
  obtain⟨x,t,h1,h2⟩:=ml (c:=c) (b:=b) (r:=r) (fun e=>h (by simp[e]));rw[lN (x:=r) (fun e=>h (by simp[e]))]at h1;cases h1;exact h2
def gZ{c:UInt8}:∀{x:aD} {s:aD},c∉x->parts c (x++c :: s)=x :: parts c s
 |[],s,_=>oD
 |b :: r,s,h=>by
  obtain⟨x,t,h1,h2⟩:=ml (c:=c) (b:=b) (r:=r++c :: s) (fun e=>h (by simp[e]));rw[gZ (x:=r) (fun e=>h (by simp[e]))]at h1;cases h1;exact h2
def tw{c:UInt8}:∀{L:List aD},L≠[]->(∀y∈L,c∉y)->parts c (nI c L)=L
 |[],h,_=>absurd rfl h
 |[x],_,h=>lN (h x (by simp))
 |x :: y :: r,_,h=>by
  show parts c (x++c :: nI c (y :: r))=_;rw[gZ (h x (by simp)),tw (by simp) fun z hz=>h z (cd _ hz)]
def sO(c:UInt8):∀(s:aD),(parts c s).length<=s.length+1
 |[]=>by simp[parts]
 |b :: r=>by
  by_cases h:b=c
  ·subst h;rw[oD];have:=sO b r;simp;omega
  ·obtain⟨x,t,h1,h2⟩:=ml (c:=c) (b:=b) (r:=r) h
   have:=sO c r;rw[h1]at this;rw[h2];simp at this ⊢;omega
def oM(c:UInt8):∀(s:aD),∀y∈parts c s,y.length<=s.length
 |[],y,h=>by simp[parts]at h;simp[h]
 |b :: r,y,h=>by
  by_cases hb:b=c
  ·subst hb;rw[oD]at h
   rcases ag.1 h with rfl|h
   ·simp
   ·have:=oM b r y h;simp;omega
  ·obtain⟨x,t,h1,h2⟩:=ml (c:=c) (b:=b) (r:=r) hb
   rw[h2]at h;rcases ag.1 h with rfl|h
   ·have:=oM c r x (by rw[h1];simp);simp;omega
   ·have:=oM c r y (by rw[h1];simp[h]);simp;omega
def xl{b c:UInt8}{l:aD}(h:b≠c):bm (b :: l) [c]=if bm l [c] == -1 then -1 else bm l [c]+1:=by
 rw[bm];simp[cm,Ne.symm h]
def xm{c:UInt8}{l:aD}:bm (c :: l) [c]=0:=by
 rw[bm];simp[cm]
def r8(c:UInt8):∀s:aD,cn [c] 0 (s.count c) s=parts c s
 |[]=>rfl
 |b :: l=>by
  by_cases h:b=c
  ·subst h
   rw[oD,List.count_cons_self,cn,xm,if_neg (by decide),<-r8 b l];simp
  ·obtain⟨x,t,h1,h2⟩:=ml (c:=c) (b:=b) (r:=l) h
   rw[h2,List.count_cons_of_ne h];rw[<-r8 c l]at h1;cases hk:l.count c with
   |zero=>
    rw[hk]at h1;simp only[cn]at h1 ⊢;cases h1;rfl
   |succ k=>
    rw[hk]at h1;have hi:bm l [c]≠-1:=by
     intro e;have:=Lib.count_miss (s:=l) (sub:=[c]) e;rw[Lib.count_one]at this;omega
    have hge:=Lib.index_ge l [c];rw[cn,if_neg (by simpa using hi)]at h1;obtain⟨i,e⟩:∃i:Nat,bm l [c]=i:=⟨(bm l [c]).toNat,by omega⟩
    have e2:bm (b :: l) [c]=((i+1:Nat):Int):=by rw[xl h,if_neg (by simpa using hi),e];rfl
    rw[cn,e2,if_neg (by simp;omega)];rw[e]at h1;simp only[dv,Nat.add_zero,da,fb,List.drop_succ_cons,List.cons.injEq]at h1 ⊢;exact⟨⟨aa,h1.1⟩,h1.2⟩
def qY(c:UInt8)(L:List aD):aD:=L.flatMap (· ++ [c])
def Ev(c:UInt8)(x:aD)(L:List aD):qY c (x :: L)=x++c :: qY c L:=by simp[qY]
def Ew{c:UInt8}:∀{L:List aD},L≠[]->qY c L=nI c L++[c]
 |[],h=>absurd rfl h
 |[x],_=>by simp[qY,nI]
 |x :: y :: r,_=>by
  rw[Ev,Ew (L:=y :: r) (by simp)];simp[nI]
def ue(x:aD)(c:UInt8):ae (x++[c]) [c]=x:=by
 have h:Lib.hasSuffix (x++[c]) [c]=true:=by unfold Lib.hasSuffix;simp[List.isSuffixOf_iff_suffix]
 unfold ae;rw[if_pos h];simp
def MM{c:UInt8}{L:List aD}(h:L≠[])(hf:∀y∈L,c∉y):parts c (ae (qY c L) [c])=L:=by
 rw[Ew h,ue,tw h hf]
def xn{k:Nat}(h:k<10):(ed (48+k)).toNat=48+k:=by
 rw[ep];omega
def pz:∀(u:Nat),∀c∈ay u,48<=c.toNat/\c.toNat<=57:=by
 intro u;induction u using fc with
 |_ u ih=>
  intro c hc;by_cases h:u<10
  ·rw[ay,dif_pos h]at hc
   simp only[db]at hc;rw[hc,xn h];omega
  ·rw[ay,dif_neg h]at hc
   rcases au.1 hc with hc|hc
   ·exact ih _ (by omega) c hc
   ·simp only[db]at hc
    rw[hc,xn (Nat.mod_lt _ (by decide))];omega
def xp(u:Nat):ay u≠[]:=by
 rw[ay];split <;> simp
def oE:∀(k u:Nat),u<10^(k+1)->(ay u).length<=k+1
 |0,u,h=>by rw[ay,dif_pos (by simpa using h)];simp
 |k+1,u,h=>by
  rw[ay];split
  ·simp
  ·have:=oE k (u / 10) (by rw[Nat.pow_succ]at h;omega)
   simp;exact this
def Ey:∀(l:aD) (c:UInt8) (a v:Nat),bo a l=.ok v->bo a (l++[c])=bo v [c]
 |[],c,a,v,h=>by simp[bo]at h;rw[h];rfl
 |b :: l,c,a,v,h=>by
  rw[ee,bo];rw[bo]at h;split at h
  ·rename_i hb
   rw[if_pos hb];split at h
   ·cases h
   ·rename_i h1
    rw[if_neg h1];split at h
    ·cases h
    ·rename_i h2
     rw[if_neg h2];exact Ey l c _ v h
  ·cases h
def Hu{v d:Nat}(hd:d<10)(h:10*v+d<18446744073709551616):bo v [ed (48+d)]=.ok (10*v+d):=by
 unfold bo;rw[xn hd,if_pos (by omega),if_neg (by omega),if_neg (by omega)];unfold bo;congr 1;omega
def SO:∀u:Nat,u<18446744073709551616->bo 0 (ay u)=.ok u:=by
 intro u;induction u using fc with
 |_ u ih=>
  intro hu;by_cases h:u<10
  ·rw[ay,dif_pos h]
   have:=Hu (v:=0) (d:=u) h (by omega);simpa using this
  ·rw[ay,dif_neg h,Ey _ _ _ _ (ih _ (by omega) (by omega)),Hu (Nat.mod_lt _ (by decide)) (by omega)]
   congr 1;omega
def K8{u:Nat}(hu:u<18446744073709551616):Lib.parseMag (ay u)=.ok u:=by
 unfold Lib.parseMag;rw[if_neg (xp u),SO u hu]
def Pr{n:Int}(h0 : -9223372036854775808<=n)(h1:n<=9223372036854775807):b6 (ab n)=.ok n:=by
 by_cases hn:n<0
 ·have hm:=K8 (u:=n.natAbs) (by omega)
  simp only[ab,if_pos hn,b6];rw[if_pos (Or.inr (by decide)),hm];simp only;rw[if_neg (by simp),if_neg (by simp;omega)];simp;omega
 ·have hm:=K8 (u:=n.toNat) (by omega)
  simp only[ab,if_neg hn,b6];cases hd:ay n.toNat with
  |nil=>exact absurd hd (xp _)
  |cons c r=>
   have hc:=pz n.toNat c (by rw[hd];simp);rw[hd]at hm;simp only;rw[if_neg (by omega),hm];simp only;rw[if_neg (by omega),if_neg (by omega),if_neg (by omega)];congr 1;omega
def dV(s:List UInt8):Int×aK:=match b6 s with
 |.ok n=>(n,.nil)
 |Lib.NumEnd.syntax=>(0,.other)
 |.range=>(Lib.atoiSat s,.other)
def cS(s:aD):Option Int:=match b6 s with
 |.ok n=>if ab n=s then some n else none
 |_=>none
def Ps{n:Int}(h0 : -9223372036854775808<=n)(h1:n<=9223372036854775807):cS (ab n)=some n:=by
 unfold cS;rw[Pr h0 h1];simp
def qK{s:aD}:(cS s).isNone=(!(dV s).2.isNil || !decide (ab (dV s).1=s)):=by
 unfold cS dV;cases b6 s with
 |ok v=>simp only[aK.isNil];by_cases h:ab v=s <;> simp[h]
 |range=>rfl
 |_=>rfl
def Ez{n:Int}{c:UInt8}(h:c.toNat<=44):c∉ab n:=by
 intro hc;have h45:(45:UInt8).toNat=45:=rfl;unfold ab at hc;split at hc
 ·rcases ag.1 hc with rfl|hc
  ·omega
  ·have:=pz _ c hc;omega
 ·have:=pz _ c hc;omega
def mD(n:Int):Nat:=2*n.natAbs+(if n<0 then 1 else 0)
def Xw{n:Int}(h:n<0):mD (-n)<mD n:=by unfold mD;rw[if_neg (by omega),if_pos h];omega
def Pu{n:Int}(h:n<0):ab n=[45]++ab (-n):=by
 unfold ab;rw[if_pos h,if_neg (by omega)];congr 2;omega
def AJ{n:Int}(h:0<=n)(h':n<10):ab n=[ed (48+n).toNat]:=by
 unfold ab;rw[if_neg (by omega),ay,dif_pos (by omega)];congr 2;omega
def mY{f:Int}(h0:0<=f)(h:(aI f).isNil=false):f > 0:=by
 have:¬f=0:=fun e=>by rw[aQ.2 e]at h;cases h
 omega
def dF{f:Int}(h:(aI f).isNil=true):f<=0:=by
 have:=aQ.1 h;omega
def EA{t:Ty}{l:List (D t)}{i j:Nat}(h:j<i):nth t (ai 0 (ah i l)) j=nth t l j:=by
 rw[ef,AG h]
def EB{α:Type}{l:List α}{i:Nat}(h:i<=l.length):(ai 0 (ah i l)).length=i:=by
 rw[ef,bh];omega
def iH(b:Bool):List UInt8:=if b=true then[119,101,97,107,32]else[]
def yu(s:aD):aD:=[110,101,101,100,32]++s++[10]
def vf(n:Int):aD:=[119,111,114,100,32]++ab n++[10]
def Dl(y:D aS):aD:=iH y.2.2.1++[115,121,109,98,111,108,32]++y.1++[32]++ab y.2.1++[10]
def tx(t:D bD):aD:=
 if t.2.1=1 then[98,97,115,101,32]++ab t.1++[32]++ab t.2.2.1++[10]
 else if t.2.1=2 then iH t.2.2.2.2.1++[119,104,111,108,101,32]++ab t.1++[32]++ab t.2.2.1++[32]++t.2.2.2.1++[10]
 else iH t.2.2.2.2.1++[110,101,97,114,32]++ab t.1++[32]++ab t.2.2.1++[32]++t.2.2.2.1++[10]
def pA(o:D aB)(i:Nat):aD:=(o.1.take i).flatMap yu
def nS(o:D aB)(i:Nat):aD:=pA o o.1.length++(o.2.1.take i).flatMap vf
def nT(o:D aB)(i:Nat):aD:=nS o o.2.1.length++(o.2.2.1.take i).flatMap Dl
def jx(o:D aB)(i:Nat):aD:=nT o o.2.2.1.length++(o.2.2.2.1.take i).flatMap tx
def iI(o:D aB):aD:=jx o o.2.2.2.1.length
def kn(o:D aB):aD×aK:=if dA o≠0 then([],aI (dA o))else if(iI o).length > 1200 then([],.no 2)else(iI o,.nil)
def Pv{o:D aB}{i:Nat}(h:i<o.1.length):pA o (i+1)=pA o i++yu (nth .str o.1 i):=by
 unfold pA;rw[ig (t:=.str) h];simp
def Pw{o:D aB}{i:Nat}(h:i<o.2.1.length):nS o (i+1)=nS o i++vf (nth (.int .i64) o.2.1 i):=by
 unfold nS;rw[ig (t:=.int .i64) h];simp
def Px{o:D aB}{i:Nat}(h:i<o.2.2.1.length):nT o (i+1)=nT o i++Dl (nth aS o.2.2.1 i):=by
 unfold nT;rw[ig (t:=aS) h];simp
def xq{o:D aB}{i:Nat}(h:i<o.2.2.2.1.length):jx o (i+1)=jx o i++tx (nth bD o.2.2.2.1 i):=by
 unfold jx;rw[ig (t:=bD) h];simp
def Py(o:D aB):nS o 0=pA o o.1.length:=by unfold nS;simp
def Pz(o:D aB):nT o 0=nS o o.2.1.length:=by unfold nT;simp
def PA(o:D aB):jx o 0=nT o o.2.2.1.length:=by unfold jx;simp
def Nm(s:aD):Prop:=s≠[]/\s.length<=8/\∀c∈s,c≠10/\c≠32
def il(a b x:Int):Prop:=a<=x/\x<=b
structure B9 (t:D bD):Prop where
 a:il 0 39 t.1
 w:il (-2147483648) 2147483647 t.2.2.1
 k:t.2.1=1\/t.2.1=2\/t.2.1=3
 base:t.2.1=1->t.2.2.2.1=[]/\t.2.2.2.2.1=false
 nm:t.2.1≠1->Nm t.2.2.2.1
structure kY (o:D aB):Prop where
 n4:o.1.length<=4
 w1:1<=o.2.1.length
 Uy:o.2.1.length<=40
 s8:o.2.2.1.length<=8
 t6:o.2.2.2.1.length<=6
 Gd:∀s∈o.1,Nm s
 words:∀n∈o.2.1,il (-2147483648) 2147483647 n
 syms:∀y∈o.2.2.1,Nm y.1/\il 0 39 y.2.1
 MN:∀t∈o.2.2.2.1,B9 t
def zC:∀(l p:List aD),jw p l=0->∀s∈l,aP s=0
 |[],_,_,s,h=>absurd h (by simp)
 |x :: r,p,h,s,hs=>by
  have hx:=eU x;unfold jw at h;split at h
  ·omega
  ·split at h
   ·cases h
   ·rcases ag.1 hs with rfl|hs
    ·omega
    ·exact zC r _ h s hs
def zD:∀(l:List Int),kM l=0->∀n∈l,ib n=true
 |[],_,s,h=>absurd h (by simp)
 |x :: r,h,s,hs=>by
  unfold kM at h;split at h
  ·rename_i hx
   rcases ag.1 hs with rfl|hs
   ·exact hx
   ·exact zD r h s hs
  ·cases h
def Ca(n:Nat):∀(l p:List (D aS)),ic n p l=0->∀y∈l,aP y.1=0/\il 0 (n-1) y.2.1
 |[],_,_,s,h=>absurd h (by simp)
 |x :: r,p,h,s,hs=>by
  have hx:=eU x.1;unfold ic at h;split at h
  ·omega
  ·split at h
   ·cases h
   ·rename_i h2
    split at h
    ·cases h
    ·rcases ag.1 hs with rfl|hs
     ·exact⟨by omega,ao.1 fun e=>h2 (.inl e),fe (cp.1 fun e=>h2 (.inr e))⟩
     ·exact Ca n r _ h s hs
def EC{n:Nat}{p:Option Int}{t:D bD}(h:mX n p t=0) :
  il 0 (n-1) t.1/\ib t.2.2.1=true/\il 1 3 t.2.1/\(t.2.1=1->t.2.2.2.1=[]/\t.2.2.2.2.1=false)/\(t.2.1≠1->aP t.2.2.2.1=0):=by
 unfold mX at h;split at h
 ·cases h
 ·rename_i h1
  split at h
  ·cases h
  ·rename_i h2
   refine⟨⟨ao.1 fun e=>h1 (.inl e),fe (cp.1 fun e=>h1 (.inr (.inl e)))⟩,?_,⟨ao.1 fun e=>h2 (.inl e),ao.1 fun e=>h2 (.inr (.inl e))⟩,?_,?_⟩
   ·cases hw:ib t.2.2.1 with
    |true=>rfl
    |false=>exact absurd (.inr (.inr hw)) h1
   ·intro e
    rw[if_pos e]at h;split at h
    ·cases h
    ·rename_i h3
     refine⟨aq fun e=>h3 (.inl e),?_⟩;cases hb:t.2.2.2.2.1 with
     |false=>rfl
     |true=>exact absurd (.inr hb) h3
   ·intro e
    rw[if_neg e]at h;exact h
def vg(n:Nat):∀(l:List (D bD)) (p:Option Int),kO n p l=0->∀t∈l,∃p,mX n p t=0
 |[],_,_,s,h=>absurd h (by simp)
 |x :: r,p,h,s,hs=>by
  unfold kO at h;split at h
  ·rename_i h0;exact absurd h h0
  ·rename_i h0
   rcases ag.1 hs with rfl|hs
   ·exact⟨p,aq h0⟩
   ·exact vg n r _ h s hs
def Cb{s:aD}(h:aP s=0):Nm s:=by
 unfold aP at h;split at h
 ·cases h
 ·rename_i hl
  split at h
  ·cases h
  ·rename_i hb
   refine⟨by rintro rfl;simp at hl,by omega,fun c hc =>?_⟩;obtain⟨i,hi,rfl⟩:=dw hc;have hn:ki i (dP s i)=false:=by
    unfold tZ at hb;rw[fg,cy]at hb;have:=hb i (by simpa using hi);simpa using this
   have he:dP s i=s[i]:=by unfold dP;simp[hi]
   rw[he]at hn;constructor
   ·intro e;rw[e]at hn;unfold ki small other at hn;simp at hn
   ·intro e;rw[e]at hn;unfold ki small other at hn;simp at hn
def three{x:Int}(h:1<=x)(h':x<=3):x=1\/x=2\/x=3:=by omega
def mZ{o:D aB}(h:dA o=0):kY o:=by
 unfold dA at h;split at h
 ·cases h
 ·rename_i hm
  split at h
  ·rename_i h1;exact absurd h h1
  ·rename_i h1
   split at h
   ·rename_i h2;exact absurd h h2
   ·rename_i h2
    split at h
    ·rename_i h3;exact absurd h h3
    ·rename_i h3
     have h1:=aq h1;have h2:=aq h2;have h3:=aq h3;unfold lY at hm;have hw:o.2.1.length<=40:=bc.1 fun e=>hm (.inr (.inr (.inl e)))
     refine⟨bc.1 fun e=>hm (.inl e),bc.1 fun e=>hm (.inr (.inl e)),hw,bc.1 fun e=>hm (.inr (.inr (.inr (.inl e)))),bc.1 fun e=>hm (.inr (.inr (.inr (.inr e)))),
      fun s hs=>Cb (zC _ _ h1 s hs),fun n hn =>?_,fun y hy =>?_,fun t ht =>?_⟩
     ·have:=zD _ h2 n hn
      unfold ib at this;simp only[af,decide_eq_true_eq]at this;exact this
     ·obtain⟨a,b,c⟩:=Ca _ _ _ h3 y hy
      exact⟨Cb a,b,b7 c (by omega)⟩
     ·obtain⟨p,hp⟩:=vg _ _ _ h t ht
      obtain⟨⟨a,b⟩,c,⟨d,e⟩,f,g⟩:=EC hp;unfold ib at c;simp only[af,decide_eq_true_eq]at c;exact⟨⟨a,b7 b (by omega)⟩,c,three d e,f,fun e=>Cb (g e)⟩
def dI{a b n:Int}(h:il a b n)(ha : -999999999999999999<=a)(hb:b<=999999999999999999):(ab n).length<=19:=by
 obtain⟨h0,h1⟩:=h;unfold ab;split
 ·rw[cj]
  have:=oE 17 n.natAbs (by omega);omega
 ·have:=oE 17 n.toNat (by omega)
  omega
def sP(b:Bool):(iH b).length<=5:=by cases b <;> decide
def PB{s:aD}(h:Nm s):(yu s).length<=64:=by have:=h.2.1;simp[yu];omega
def PC{n:Int}(h:il (-2147483648) 2147483647 n):(vf n).length<=64:=by have:=dI h (by decide) (by decide);simp[vf];omega
def SP{y:D aS}(h:Nm y.1/\il 0 39 y.2.1):(Dl y).length<=64:=by
 have h1:=dI h.2 (by decide) (by decide);have h2:=sP y.2.2.1;have h3:=h.1.2.1;simp[Dl];omega
def SQ{t:D bD}(h:B9 t):(tx t).length<=64:=by
 have h1:=dI h.a (by decide) (by decide);have h4:=dI h.w (by decide) (by decide);have h2:=sP t.2.2.2.2.1;unfold tx;split
 ·simp;omega
 ·rename_i hk
  have h3:=(h.nm hk).2.1;split
  ·simp;omega
  ·simp;omega
def oN{α:Type}{f:α->aD}:∀{l:List α},(∀x∈l,(f x).length<=64)->(l.flatMap f).length<=64*l.length
 |[],_=>by simp
 |x :: r,h=>by
  have h1:=h x (by simp);have h2:=oN (f:=f) (l:=r) fun y hy=>h y (cd _ hy)
  rw[bx,aw,cj];omega
def kY.Hv{o:D aB}(h:kY o)(i:Nat):(pA o i).length<=1000:=by
 have:=oN (f:=yu) (l:=o.1.take i) fun s hs=>PB (h.Gd s (b8 hs))
 have h2:=h.n4;unfold pA;simp only[bh]at this;omega
def kY.AK{o:D aB}(h:kY o)(i:Nat):(nS o i).length<=4000:=by
 have h0:=h.Hv o.1.length;have:=oN (f:=vf) (l:=o.2.1.take i) fun s hs=>PC (h.words s (b8 hs))
 have h2:=h.Uy;unfold nS;rw[aw];simp only[bh]at this;omega
def kY.Wz{o:D aB}(h:kY o)(i:Nat):(nT o i).length<=5000:=by
 have h0:=h.AK o.2.1.length;have:=oN (f:=Dl) (l:=o.2.2.1.take i) fun s hs=>SP (h.syms s (b8 hs))
 have h2:=h.s8;unfold nT;rw[aw];simp only[bh]at this;omega
def kY.Xr{o:D aB}(h:kY o)(i:Nat):(jx o i).length<=6000:=by
 have h0:=h.Wz o.2.2.1.length;have:=oN (f:=tx) (l:=o.2.2.2.1.take i) fun s hs=>SQ (h.MN s (b8 hs))
 have h2:=h.t6;unfold jx;rw[aw];simp only[bh]at this;omega
def kY.xr{o:D aB}(h:kY o){i:Nat}(hi:i<o.1.length):Nm (nth .str o.1 i):=h.Gd _ (eJ (t:=.str) hi)
def kY.word{o:D aB}(h:kY o){i:Nat}(hi:i<o.2.1.length):il (-2147483648) 2147483647 (nth (.int .i64) o.2.1 i):=h.words _ (eJ (t:=.int .i64) hi)
def kY.sym{o:D aB}(h:kY o){i:Nat}(hi:i<o.2.2.1.length):Nm (nth aS o.2.2.1 i).1/\il 0 39 (nth aS o.2.2.1 i).2.1:=h.syms _ (eJ (t:=aS) hi)
def kY.tie{o:D aB}(h:kY o){i:Nat}(hi:i<o.2.2.2.1.length):B9 (nth bD o.2.2.2.1 i):=h.MN _ (eJ (t:=bD) hi)
def JW(a b:aD):bI a++bI b=bI (a++b):=by simp[bI]
def zE(a:aD):(bI a).length=a.length:=by simp[bI]
def ED{o:D aB}(h:kY o){i:Nat}(hi:i<o.1.length):(nth .str o.1 i).length<=8/\(pA o i).length<=1000:=⟨(h.xr hi).2.1,h.Hv i⟩
def EE{o:D aB}(h:kY o){i:Nat}(hi:i<o.2.1.length):(ab (nth (.int .i64) o.2.1 i)).length<=19/\(nS o i).length<=4000:=
 ⟨dI (h.word hi) (by decide) (by decide),h.AK i⟩
def Hw{o:D aB}(h:kY o){i:Nat}(hi:i<o.2.2.1.length) :
  (nth aS o.2.2.1 i).1.length<=8/\(ab (nth aS o.2.2.1 i).2.1).length<=19/\(iH (nth aS o.2.2.1 i).2.2.1).length<=5/\(nT o i).length<=5000:=
 ⟨(h.sym hi).1.2.1,dI (h.sym hi).2 (by decide) (by decide),sP _,h.Wz i⟩
def Hx{o:D aB}(h:kY o){i:Nat}(hi:i<o.2.2.2.1.length) :
  (nth bD o.2.2.2.1 i).2.2.2.1.length<=8/\(ab (nth bD o.2.2.2.1 i).1).length<=19/\(ab (nth bD o.2.2.2.1 i).2.2.1).length<=19/\(iH (nth bD o.2.2.2.1 i).2.2.2.2.1).length<=5/\(jx o i).length<=6000:=by
 have ht:=h.tie hi;refine⟨?_,dI ht.a (by decide) (by decide),dI ht.w (by decide) (by decide),sP _,h.Xr i⟩;by_cases hk:(nth bD o.2.2.2.1 i).2.1=1
 ·rw[(ht.base hk).1];decide
 ·exact(ht.nm hk).2.1
def oO{p p' q:aD}{a b:Int}(h:p'=p++q):(((bI p++bI q,a,b,()):D ku))=((bI p',a,b,()):D ku):=by rw[h,JW]
def AL{p p':aD}{a b:Int}(h:p=p'):((bI p,a,b,()):D ku)=((bI p',a,b,()):D ku):=by rw[h]
def MO{o:D aB}{i:Nat}(h:i<o.2.2.2.1.length)(hk:(nth bD o.2.2.2.1 i).2.1=1) :
  jx o (i+1)=jx o i++([98,97,115,101,32]++ab (nth bD o.2.2.2.1 i).1++[32]++ab (nth bD o.2.2.2.1 i).2.2.1++[10]):=by
 rw[xq h];unfold tx;rw[if_pos hk]
def MP{o:D aB}{i:Nat}(h:i<o.2.2.2.1.length)(hk:¬(nth bD o.2.2.2.1 i).2.1=1)(hk2:(nth bD o.2.2.2.1 i).2.1=2) :
  jx o (i+1)=jx o i++(iH (nth bD o.2.2.2.1 i).2.2.2.2.1++[119,104,111,108,101,32]++ab (nth bD o.2.2.2.1 i).1++[32]++ab (nth bD o.2.2.2.1 i).2.2.1++[32]++(nth bD o.2.2.2.1 i).2.2.2.1++[10]):=by
 rw[xq h];unfold tx;rw[if_neg hk,if_pos hk2]
def MQ{o:D aB}{i:Nat}(h:i<o.2.2.2.1.length)(hk:¬(nth bD o.2.2.2.1 i).2.1=1)(hk2:¬(nth bD o.2.2.2.1 i).2.1=2) :
  jx o (i+1)=jx o i++(iH (nth bD o.2.2.2.1 i).2.2.2.2.1++[110,101,97,114,32]++ab (nth bD o.2.2.2.1 i).1++[32]++ab (nth bD o.2.2.2.1 i).2.2.1++[32]++(nth bD o.2.2.2.1 i).2.2.2.1++[10]):=by
 rw[xq h];unfold tx;rw[if_neg hk,if_neg hk2]
def EF{o:D aB}(h:dA o≠0):kn o=([],aI (dA o)):=by unfold kn;rw[if_pos h]
def Cc{o:D aB}(h:dA o=0){i:Nat}(hi:i=o.2.2.2.1.length)(hl:(jx o i).length > 1200):kn o=([],.no 2):=by
 unfold kn;rw[if_neg (by rw[h];decide),if_pos (by unfold iI;rw[<-hi];exact hl)]
def vh{o:D aB}(h:dA o=0){i:Nat}(hi:i=o.2.2.2.1.length)(hl:(jx o i).length<=1200):kn o=(jx o i,.nil):=by
 unfold kn;rw[if_neg (by rw[h];decide),if_neg (by unfold iI;rw[<-hi];omega)];unfold iI;rw[<-hi]
@[reducible] def dS:aD:=[119,101,97,107,32]
@[reducible] def ko:aD:=[110,101,101,100]
@[reducible] def jU:aD:=[119,111,114,100]
@[reducible] def jj:aD:=[115,121,109,98,111,108]
@[reducible] def mK:aD:=[98,97,115,101]
@[reducible] def lC:aD:=[119,104,111,108,101]
@[reducible] def lg:aD:=[110,101,97,114]
def p5(o:D aB)(s:aD):D aB:=(o.1++[s],o.2)
def p7(o:D aB)(n:Int):D aB:=(o.1,o.2.1++[n],o.2.2)
def uf(o:D aB)(y:D aS):D aB:=(o.1,o.2.1,o.2.2.1++[y],o.2.2.2)
def pB(o:D aB)(t:D bD):D aB:=(o.1,o.2.1,o.2.2.1,o.2.2.2.1++[t],())
def AM(x y:aD)(k:Int->Int->D aB):Option (D aB):=
 match cS x,cS y with
 |some m,some n=>some (k m n)
 |_,_=>none
def nc(o:D aB)(b:Bool):List aD->Option (D aB)
 |[a,x]=>if a=ko then some (p5 o x)else if a=jU then(cS x).map (p7 o)else none
 |[a,x,y]=>if a=jj then(cS y).map fun n=>uf o (x,n,b,())else if a=mK then AM x y fun m n=>pB o (m,1,n,[],false,())else none
 |[a,x,y,z]=>if a=lC\/a=lg then AM x y fun m n=>pB o (m,if a=lg then 3 else 2,n,z,b,())else none
 |_=>none
def pC(o:D aB)(s:aD):Option (D aB):=nc o (av s dS) (parts 32 (ax s dS))
def run(f:D aB->aD->Option (D aB)):D aB->List aD->Option (D aB)
 |o,[]=>some o
 |o,s :: r=>match f o s with
  |some p=>run f p r
  |none=>none
def Hy{f:D aB->aD->Option (D aB)}:∀{l:List aD} {o:D aB} {s:aD},run f o (l++[s])=(run f o l).bind fun p=>f p s
 |[],o,s=>by simp only[ew,run,fh];cases f o s <;> rfl
 |x :: r,o,s=>by
  simp only[ee,run];cases f o x with
  |none=>rfl
  |some p=>exact Hy
def yv{f:D aB->aD->Option (D aB)}:∀{l m:List aD} {o p:D aB},run f o l=some p->run f o (l++m)=run f p m
 |[],m,o,p,h=>by simp only[run,df]at h;rw[h];rfl
 |x :: r,m,o,p,h=>by
  simp only[run]at h;simp only[ee,run];cases hx:f o x with
  |none=>rw[hx]at h;cases h
  |some q=>rw[hx]at h;exact yv h
def pD(s:aD):aD:=[110,101,101,100,32]++s
def pE(n:Int):aD:=[119,111,114,100,32]++ab n
def AN(y:D aS):aD:=iH y.2.2.1++([115,121,109,98,111,108,32]++(y.1++32 :: ab y.2.1))
def xu(t:D bD):aD:=
 if t.2.1=1 then[98,97,115,101,32]++(ab t.1++32 :: ab t.2.2.1)
 else if t.2.1=2 then iH t.2.2.2.2.1++([119,104,111,108,101,32]++(ab t.1++32 :: (ab t.2.2.1++32 :: t.2.2.2.1)))
 else iH t.2.2.2.2.1++([110,101,97,114,32]++(ab t.1++32 :: (ab t.2.2.1++32 :: t.2.2.2.1)))
def qL(o:D aB):List aD:=o.1.map pD++(o.2.1.map pE++(o.2.2.1.map AN++o.2.2.2.1.map xu))
def r9{α:Type}{f g:α->aD}(h:∀x,f x=g x++[10]):∀l:List α,l.flatMap f=qY 10 (l.map g)
 |[]=>rfl
 |x :: r=>by rw[bx,r9 h r,aj,Ev,h];simp
def AO(c:UInt8)(l m:List aD):qY c (l++m)=qY c l++qY c m:=by simp[qY]
def JX(o:D aB):iI o=qY 10 (qL o):=by
 unfold iI jx nT nS pA qL;rw[cb,cb,cb,cb,AO,AO,AO,
  r9 (g:=pD) (fun s=>by simp[yu,pD]) o.1,r9 (g:=pE) (fun s=>by simp[vf,pE]) o.2.1,
  r9 (g:=AN) (fun s=>by simp[Dl,AN]) o.2.2.1,
  r9 (g:=xu) (fun s=>by unfold tx xu;split <;> (try split) <;> simp) o.2.2.2.1]
 simp
structure Reads (f:D aB->aD->Option (D aB)):Prop where
 xr:∀(o:D aB) (s:aD),Nm s->f o (pD s)=some (p5 o s)
 word:∀(o:D aB) (n:Int),il (-2147483648) 2147483647 n->f o (pE n)=some (p7 o n)
 sym:∀(o:D aB) (y:D aS),Nm y.1->il 0 39 y.2.1->f o (AN y)=some (uf o y)
 tie:∀(o:D aB) (t:D bD),B9 t->f o (xu t)=some (pB o t)
section
variable{f:D aB->aD->Option (D aB)}(h:Reads f)
include h
def EG:∀(l:List aD) (o:D aB),(∀s∈l,Nm s)->run f o (l.map pD)=some (o.1++l,o.2)
 |[],o,_=>by simp[run]
 |s :: r,o,hl=>by
  rw[aj,run,h.xr o s (hl s (by simp))];show run f (p5 o s) (r.map pD)=_;rw[EG r _ fun x hx=>hl x (cd _ hx)];simp[p5]
def EH:∀(l:List Int) (o:D aB),(∀n∈l,il (-2147483648) 2147483647 n)->run f o (l.map pE)=some (o.1,o.2.1++l,o.2.2)
 |[],o,_=>by simp[run]
 |s :: r,o,hl=>by
  rw[aj,run,h.word o s (hl s (by simp))];show run f (p7 o s) (r.map pE)=_;rw[EH r _ fun x hx=>hl x (cd _ hx)];simp[p7]
def Hz:∀(l:List (D aS)) (o:D aB),(∀y∈l,Nm y.1/\il 0 39 y.2.1)->run f o (l.map AN)=some (o.1,o.2.1,o.2.2.1++l,o.2.2.2)
 |[],o,_=>by simp[run]
 |s :: r,o,hl=>by
  rw[aj,run,h.sym o s (hl s (by simp)).1 (hl s (by simp)).2];show run f (uf o s) (r.map AN)=_;rw[Hz r _ fun x hx=>hl x (cd _ hx)];simp[uf]
def HA:∀(l:List (D bD)) (o:D aB),(∀t∈l,B9 t)->run f o (l.map xu)=some (o.1,o.2.1,o.2.2.1,o.2.2.2.1++l,())
 |[],o,_=>by simp[run]
 |s :: r,o,hl=>by
  rw[aj,run,h.tie o s (hl s (by simp))];show run f (pB o s) (r.map xu)=_;rw[HA r _ fun x hx=>hl x (cd _ hx)];simp[pB]
def PE{o:D aB}(ok:kY o):run f (bY aB) (qL o)=some o:=by
 unfold qL;rw[yv (EG h o.1 _ ok.Gd),yv (EH h o.2.1 _ ok.words),yv (Hz h o.2.2.1 _ ok.syms),HA h o.2.2.2.1 _ ok.MN];rfl
end
def Cd{a:UInt8}{s:aD}(h:a≠119):av (a :: s) dS=false:=by
 unfold av dS;simp[cm];intro e;exact absurd e.symm h
def Vd{s:aD}(h:av s dS=false):ax s dS=s:=by unfold ax;rw[if_neg (by rw[h];decide)]
def K9(s:aD):av (dS++s) dS=true:=by unfold av dS;simp[cm]
def SR(s:aD):ax (dS++s) dS=s:=by unfold ax;rw[if_pos (K9 s)];rfl
def La{a b:UInt8}{s:aD}(h:b≠101):av (a :: b :: s) dS=false:=by
 unfold av dS;simp[cm];intro _ e;exact absurd e.symm h
def nJ(o:D aB)(b:Bool)(s:aD)(h:av s dS=false):pC o (iH b++s)=nc o b (parts 32 s):=by
 unfold pC;cases b with
 |false=>show nc o (av s dS) (parts 32 (ax s dS))=_;rw[h,Vd h]
 |true=>show nc o (av (dS++s) dS) (parts 32 (ax (dS++s) dS))=_;rw[K9,SR]
def nK{s:aD}(h:Nm s):(32:UInt8)∉s/\(10:UInt8)∉s:=⟨fun hc=>(h.2.2 _ hc).2 rfl,fun hc=>(h.2.2 _ hc).1 rfl⟩
def jL(n:Int):(32:UInt8)∉ab n:=Ez (by decide)
def nf(n:Int):(10:UInt8)∉ab n:=Ez (by decide)
def MR{s:aD}(h:Nm s):parts 32 (pD s)=[ko,s]:=by
 show parts 32 (ko++32 :: s)=_;rw[gZ (by decide),lN (nK h).1]
def MS(n:Int):parts 32 (pE n)=[jU,ab n]:=by
 show parts 32 (jU++32 :: ab n)=_;rw[gZ (by decide),lN (jL n)]
def PF{s:aD}{n:Int}(h:Nm s):parts 32 ([115,121,109,98,111,108,32]++(s++32 :: ab n))=[jj,s,ab n]:=by
 show parts 32 (jj++32 :: (s++32 :: ab n))=_;rw[gZ (by decide),gZ (nK h).1,lN (jL n)]
def MT(m n:Int):parts 32 ([98,97,115,101,32]++(ab m++32 :: ab n))=[mK,ab m,ab n]:=by
 show parts 32 (mK++32 :: (ab m++32 :: ab n))=_;rw[gZ (by decide),gZ (jL m),lN (jL n)]
def JY{s:aD}(m n:Int)(h:Nm s):parts 32 ([119,104,111,108,101,32]++(ab m++32 :: (ab n++32 :: s)))=[lC,ab m,ab n,s]:=by
 show parts 32 (lC++32 :: (ab m++32 :: (ab n++32 :: s)))=_;rw[gZ (by decide),gZ (jL m),gZ (jL n),lN (nK h).1]
def MU{s:aD}(m n:Int)(h:Nm s):parts 32 ([110,101,97,114,32]++(ab m++32 :: (ab n++32 :: s)))=[lg,ab m,ab n,s]:=by
 show parts 32 (lg++32 :: (ab m++32 :: (ab n++32 :: s)))=_;rw[gZ (by decide),gZ (jL m),gZ (jL n),lN (nK h).1]
def rB{a b n:Int}(h:il a b n)(ha : -9223372036854775808<=a)(hb:b<=9223372036854775807):cS (ab n)=some n:=Ps (b7 ha h.1) (b7 h.2 hb)
def WA:Reads pC where
 xr o s h:=by
  have:=nJ o false (pD s) (Cd (by decide));rw[show iH false++pD s=pD s from rfl,MR h]at this;exact this
 word o n h:=by
  have:=nJ o false (pE n) (La (by decide));rw[show iH false++pE n=pE n from rfl,MS]at this;rw[this];show(if jU=ko then some (p5 o (ab n))else if jU=jU then(cS (ab n)).map (p7 o)else none)=_;rw[if_neg (by decide),if_pos rfl,rB h (by decide) (by decide)];rfl
 sym o y h h':=by
  have:=nJ o y.2.2.1 ([115,121,109,98,111,108,32]++(y.1++32 :: ab y.2.1)) (Cd (by decide));rw[PF h]at this;refine Eq.trans this ?_;dsimp only[nc];rw[if_pos rfl,rB h' (by decide) (by decide)];rfl
 tie o t h:=by
  obtain⟨at',k,ad,nm,b,_⟩:=t;have ha:=rB h.a (by decide) (by decide);have hw:=rB h.w (by decide) (by decide);simp only at ha hw;unfold xu;rcases h.k with e|e|e
  ·have hb:=h.base e
   simp only at e hb;obtain⟨rfl,rfl⟩:=hb;subst e;rw[if_pos rfl];have:=nJ o false ([98,97,115,101,32]++(ab at'++32 :: ab ad)) (Cd (by decide));rw[MT]at this;refine this.trans ?_;dsimp only[nc];rw[if_neg (by decide),if_pos rfl];unfold AM;rw[ha,hw]
  ·have hn:=h.nm (by rw[show _=_ from e];decide)
   simp only at e hn;subst e;rw[if_neg (by simp),if_pos rfl];have:=nJ o b ([119,104,111,108,101,32]++(ab at'++32 :: (ab ad++32 :: nm))) (La (by decide));rw[JY _ _ hn]at this;refine this.trans ?_;dsimp only[nc];rw[if_pos (.inl rfl),if_neg (by decide)];unfold AM;rw[ha,hw]
  ·have hn:=h.nm (by rw[show _=_ from e];decide)
   simp only at e hn;subst e;rw[if_neg (by simp),if_neg (by simp)];have:=nJ o b ([110,101,97,114,32]++(ab at'++32 :: (ab ad++32 :: nm))) (Cd (by decide));rw[MU _ _ hn]at this;refine this.trans ?_;dsimp only[nc];rw[if_pos (.inr rfl),if_pos rfl];unfold AM;rw[ha,hw]
def MV{o:D aB}(h:kY o):∀l∈qL o,(10:UInt8)∉l:=by
 intro l hl;unfold qL at hl;simp only[au,bf]at hl;have hw:∀b,(10:UInt8)∉iH b:=by intro b;cases b <;> decide
 rcases hl with⟨s,hs,rfl⟩|⟨n,hn,rfl⟩|⟨y,hy,rfl⟩|⟨t,ht,rfl⟩
 ·have:=(nK (h.Gd s hs)).2
  unfold pD;simp[this]
 ·have:=nf n
  unfold pE;simp[this]
 ·have h1:=(nK (h.syms y hy).1).2
  have h2:=nf y.2.1;have h3:=hw y.2.2.1;unfold AN;simp[h1,h2,h3]
 ·have h1:=nf t.1
  have h2:=nf t.2.2.1;have h3:=hw t.2.2.2.2.1;unfold xu;split
  ·simp[h1,h2]
  ·rename_i hk
   have h4:=(nK ((h.MN t ht).nm hk)).2;split <;> simp[h1,h2,h3,h4]
def SS{o:D aB}(h:kY o):qL o≠[]:=by
 have h1:=h.w1;unfold qL;intro e;simp only[List.append_eq_nil_iff,List.map_eq_nil_iff]at e;rw[e.2.1]at h1;simp at h1
def MW(s:aD):Option (D aB):=run pC (bY aB) (parts 10 (ae s [10]))
def sQ{o:D aB}(h:dA o=0):MW (iI o)=some o:=by
 have ok:=mZ h;unfold MW;rw[JX,MM (SS ok) (MV ok),PE WA ok]
def PG{o p:D aB}(h:dA o=0)(h':dA p=0)(e:iI o=iI p):o=p:=by
 have a:=sQ h;rw[e,sQ h']at a;exact(dy a).symm
open Classical in
def cU(s:aD):D aB×Int:=
 if s.length > 1200 then(bY aB,2)
 else if h:∃o:D aB,dA o=0/\iI o=s then(b9 h,0)else(bY aB,4)
def EI{s:aD}(h:s.length > 1200):cU s=(bY aB,2):=by unfold cU;rw[if_pos h]
def Dm{s:aD}{o:D aB}(h:¬s.length > 1200)(hf:dA o=0)(ht:iI o=s):cU s=(o,0):=by
 have hx:∃o:D aB,dA o=0/\iI o=s:=⟨o,hf,ht⟩
 have hc:=cz hx;unfold cU;rw[if_neg h,dif_pos hx,PG hc.1 hf (hc.2.trans ht.symm)]
def AP{s:aD}(h:¬s.length > 1200)(hn:∀o:D aB,dA o=0->iI o≠s):cU s=(bY aB,4):=by
 unfold cU;rw[if_neg h,dif_neg fun⟨o,h1,h2⟩=>hn o h1 h2]
def MX{s:aD}(h:¬s.length > 1200)(hr:MW s=none):cU s=(bY aB,4):=
 AP h fun o h1 h2=>by rw[<-h2,sQ h1]at hr;cases hr
def Ce{s:aD}{o:D aB}(h:¬s.length > 1200)(hr:MW s=some o)(hb:dA o=0->iI o≠s):cU s=(bY aB,4):=
 AP h fun p h1 h2=>by
  have:p=o:=by rw[<-h2,sQ h1]at hr;exact dy hr
  rw[this]at h1 h2;exact hb h1 h2
def gC(o:D aB)(b:Bool)(s:aD):D aB×Bool:=
 let w:=parts 32 (ax s dS)
 if nth .str w 0=ko/\w.length=2 then(p5 o (nth .str w 1),b)
 else if nth .str w 0=jU/\w.length=2 then(p7 o (dV (nth .str w 1)).1,b || (cS (nth .str w 1)).isNone)
 else if nth .str w 0=jj/\w.length=3 then(uf o (nth .str w 1,(dV (nth .str w 2)).1,av s dS,()),b || (cS (nth .str w 2)).isNone)
 else if nth .str w 0=mK/\w.length=3 then(pB o ((dV (nth .str w 1)).1,1,(dV (nth .str w 2)).1,[],false,()),(b || (cS (nth .str w 1)).isNone) || (cS (nth .str w 2)).isNone)
 else if(nth .str w 0=lC\/nth .str w 0=lg)/\w.length=4 then
  (pB o ((dV (nth .str w 1)).1,if nth .str w 0=lg then 3 else 2,(dV (nth .str w 2)).1,nth .str w 3,av s dS,()),(b || (cS (nth .str w 1)).isNone) || (cS (nth .str w 2)).isNone)
 else(o,true)
def ng{s:aD}{n:Int}(h:cS s=some n):(dV s).1=n:=by
 unfold cS at h;unfold dV;cases ha:b6 s with
 |ok v=>rw[ha]at h;simp only at h ⊢;split at h <;> simp_all
 |range=>rw[ha]at h;cases h
 |_=>rw[ha]at h;cases h
def MY(o:D aB)(b:Bool)(s:aD):(∃p,pC o s=some p/\gC o b s=(p,b))\/(pC o s=none/\(gC o b s).2=true):=by
 unfold pC gC;generalize hw:parts 32 (ax s dS)=w;generalize av s dS=k;have hne:=AI 32 (ax s dS);rw[hw]at hne
 match w,hne with
 |[],hne=>exact absurd rfl hne
 |[a],_=>exact .inr ⟨rfl,by simp⟩
 |[a,x],_=>
  dsimp only[nc];simp only[show nth .str [a,x] 0=a from rfl,show nth .str [a,x] 1=x from rfl];by_cases h1:a=ko
  ·rw[if_pos h1,if_pos (show(a=ko)/\[a,x].length=2 from⟨h1,rfl⟩)];exact .inl ⟨_,rfl,rfl⟩
  ·rw[if_neg h1,if_neg (show ¬((a=ko)/\[a,x].length=2)from fun e=>h1 e.1)]
   by_cases h2:a=jU
   ·rw[if_pos h2,if_pos (show(a=jU)/\[a,x].length=2 from⟨h2,rfl⟩)]
    cases hn:cS x with
    |none=>exact .inr ⟨rfl,by simp⟩
    |some n=>exact .inl ⟨_,rfl,by rw[ng hn];simp⟩
   ·rw[if_neg h2,if_neg (show ¬((a=jU)/\[a,x].length=2)from fun e=>h2 e.1),if_neg (show ¬((a=jj)/\[a,x].length=3)from fun e=>absurd e.2 (by simp)),if_neg (show ¬((a=mK)/\[a,x].length=3)from fun e=>absurd e.2 (by simp)),if_neg (show ¬((a=lC\/a=lg)/\[a,x].length=4)from fun e=>absurd e.2 (by simp))];exact .inr ⟨rfl,rfl⟩
 |[a,x,y],_=>
  dsimp only[nc];simp only[show nth .str [a,x,y] 0=a from rfl,show nth .str [a,x,y] 1=x from rfl,show nth .str [a,x,y] 2=y from rfl];rw[if_neg (show ¬((a=ko)/\[a,x,y].length=2)from fun e=>absurd e.2 (by simp)),if_neg (show ¬((a=jU)/\[a,x,y].length=2)from fun e=>absurd e.2 (by simp))];by_cases h1:a=jj
  ·rw[if_pos h1,if_pos (show(a=jj)/\[a,x,y].length=3 from⟨h1,rfl⟩)]
   cases hn:cS y with
   |none=>exact .inr ⟨rfl,by simp⟩
   |some n=>exact .inl ⟨_,rfl,by rw[ng hn];simp⟩
  ·rw[if_neg h1,if_neg (show ¬((a=jj)/\[a,x,y].length=3)from fun e=>h1 e.1)]
   by_cases h2:a=mK
   ·rw[if_pos h2,if_pos (show(a=mK)/\[a,x,y].length=3 from⟨h2,rfl⟩)]
    unfold AM;cases hm:cS x with
    |none=>exact .inr ⟨rfl,by simp⟩
    |some m=>
     cases hn:cS y with
     |none=>exact .inr ⟨rfl,by simp⟩
     |some n=>exact .inl ⟨_,rfl,by rw[ng hn,ng hm];simp⟩
   ·rw[if_neg h2,if_neg (show ¬((a=mK)/\[a,x,y].length=3)from fun e=>h2 e.1),if_neg (show ¬((a=lC\/a=lg)/\[a,x,y].length=4)from fun e=>absurd e.2 (by simp))];exact .inr ⟨rfl,rfl⟩
 |[a,x,y,z],_=>
  dsimp only[nc];simp only[show nth .str [a,x,y,z] 0=a from rfl,show nth .str [a,x,y,z] 1=x from rfl,show nth .str [a,x,y,z] 2=y from rfl,show nth .str [a,x,y,z] 3=z from rfl];rw[if_neg (show ¬((a=ko)/\[a,x,y,z].length=2)from fun e=>absurd e.2 (by simp)),if_neg (show ¬((a=jU)/\[a,x,y,z].length=2)from fun e=>absurd e.2 (by simp)),if_neg (show ¬((a=jj)/\[a,x,y,z].length=3)from fun e=>absurd e.2 (by simp)),if_neg (show ¬((a=mK)/\[a,x,y,z].length=3)from fun e=>absurd e.2 (by simp))];by_cases h1:a=lC\/a=lg
  ·rw[if_pos h1,if_pos (show(a=lC\/a=lg)/\[a,x,y,z].length=4 from⟨h1,rfl⟩)]
   unfold AM;cases hm:cS x with
   |none=>exact .inr ⟨rfl,by simp⟩
   |some m=>
    cases hn:cS y with
    |none=>exact .inr ⟨rfl,by simp⟩
    |some n=>exact .inl ⟨_,rfl,by rw[ng hn,ng hm];simp⟩
  ·rw[if_neg h1,if_neg (show ¬((a=lC\/a=lg)/\[a,x,y,z].length=4)from fun e=>h1 e.1)];exact .inr ⟨rfl,rfl⟩
 |a :: x :: y :: z :: u :: r,_=>exact .inr ⟨rfl,by simp⟩
def PH(o:D aB)(s:aD):(gC o true s).2=true:=by
 unfold gC;simp only[Bool.true_or];split
 ·rfl
 ·split
  ·rfl
  ·split
   ·rfl
   ·split
    ·rfl
    ·split <;> rfl
def PI(o:D aB)(b:Bool)(s:aD) :
  (gC o b s).1.1.length<=o.1.length+1/\(gC o b s).1.2.1.length<=o.2.1.length+1/\(gC o b s).1.2.2.1.length<=o.2.2.1.length+1/\(gC o b s).1.2.2.2.1.length<=o.2.2.2.1.length+1:=by
 have e:∀{α:Type} (l:List α) (x:α),(l++[x]).length<=l.length+1:=fun l x=>by simp
 have e0:∀n:Nat,n<=n+1:=fun n=>Nat.le_succ n
 unfold gC;simp only;split
 ·exact⟨e _ _,e0 _,e0 _,e0 _⟩
 ·split
  ·exact⟨e0 _,e _ _,e0 _,e0 _⟩
  ·split
   ·exact⟨e0 _,e0 _,e _ _,e0 _⟩
   ·split
    ·exact⟨e0 _,e0 _,e0 _,e _ _⟩
    ·split
     ·exact⟨e0 _,e0 _,e0 _,e _ _⟩
     ·exact⟨e0 _,e0 _,e0 _,e0 _⟩
structure lD (L:List aD) (i:Nat) (o:D aB) (b:Bool):Prop where
 le:i<=L.length
 st:(run pC (bY aB) (L.take i)=some o/\b=false)\/(run pC (bY aB) (L.take i)=none/\b=true)
 l1:o.1.length<=i
 l2:o.2.1.length<=i
 l3:o.2.2.1.length<=i
 l4:o.2.2.2.1.length<=i
def lD.zero(L:List aD):lD L 0 (bY aB) false:=⟨ar _,.inl ⟨rfl,rfl⟩,ak _,ak _,ak _,ak _⟩
def lD.next{L:List aD}{i:Nat}{o:D aB}{b:Bool}(h:lD L i o b)(hi:i<L.length):lD L (i+1) (gC o b (nth .str L i)).1 (gC o b (nth .str L i)).2:=by
 obtain⟨a1,a2,a3,a4⟩:=PI o b (nth .str L i);refine⟨hi,?_,by have:=h.l1;omega,by have:=h.l2;omega,by have:=h.l3;omega,by have:=h.l4;omega⟩;rw[ig (t:=.str) hi,Hy];rcases h.st with⟨hr,hb⟩|⟨hr,hb⟩
 ·rw[hr,fh]
  rcases MY o b (nth .str L i)with⟨p,h1,h2⟩|⟨h1,h2⟩
  ·rw[h2];exact .inl ⟨h1,hb⟩
  ·exact .inr ⟨h1,h2⟩
 ·rw[hr,hb];exact .inr ⟨rfl,PH o _⟩
abbrev Rd:=aD->aD×Int×Int
structure iJ (rd:Rd):Prop where
 code:∀s,(rd s).2.2=0\/(rd s).2.2=5
 mm:∃K:List aD,K.length<=6/\∀s,(rd s).2.2=0->s∈K
def gx(ns l:List aD):List aD:=l.foldl (fun ns s=>if ns.any (· == s)=true then ns else ns++[s]) ns
def kR(rd:Rd)(s:aD):D aB:=(cU (rd s).1).1
def fK(rd:Rd)(s:aD):Int:=if(rd s).2.2=0 then(cU (rd s).1).2 else(rd s).2.2
def pF(rd:Rd):Nat->Nat->List aD->List (D aB)->List aD×List (D aB)×Int
 |0,_,ns,os=>(ns,os,0)
 |k+1,i,ns,os=>
  if i<ns.length then
   if fK rd (nth .str ns i)=0 then pF rd k (i+1) (gx ns (kR rd (nth .str ns i)).1) (os++[kR rd (nth .str ns i)])
   else([],[],fK rd (nth .str ns i))
  else(ns,os,0)
def bJ(rd:Rd)(root:aD):List aD×List (D aB)×Int:=pF rd 7 0 [root] []
def Cf(s:aD):((cU s).2=0/\dA (cU s).1=0/\iI (cU s).1=s)\/cU s=(bY aB,2)\/cU s=(bY aB,4):=by
 by_cases h:s.length > 1200
 ·exact .inr (.inl (EI h))
 ·by_cases h2:∃o:D aB,dA o=0/\iI o=s
  ·obtain⟨o,h3,h4⟩:=h2
   rw[Dm h h3 h4];exact .inl ⟨rfl,h3,h4⟩
  ·exact .inr (.inr (AP h fun o h3 h4=>h2 ⟨o,h3,h4⟩))
def zF(s:aD):0<=(cU s).2:=by
 rcases Cf s with⟨h,_⟩|h|h <;> rw[h] <;> decide
def vj{s:aD}(h:(cU s).2=0):dA (cU s).1=0:=by
 rcases Cf s with⟨_,h,_⟩|h'|h'
 ·exact h
 ·rw[h']at h;cases h
 ·rw[h']at h;cases h
def Dn{rd:Rd}(h:iJ rd)(s:aD):0<=fK rd s:=by
 unfold fK;split
 ·exact zF _
 ·rcases h.code s with e|e <;> rw[e] <;> decide
def ke{rd:Rd}(h:iJ rd){s:aD}(e:fK rd s=0):(rd s).2.2=0/\(cU (rd s).1).2=0:=by
 unfold fK at e;rcases h.code s with c|c
 ·rw[if_pos c]at e;exact⟨c,e⟩
 ·rw[if_neg (by rw[c];decide),c]at e;cases e
def xv{rd:Rd}{s:aD}(e:¬(rd s).2.2=0):fK rd s=(rd s).2.2:=by unfold fK;rw[if_neg e]
def tz{rd:Rd}{s:aD}(e:(rd s).2.2=0):fK rd s=(cU (rd s).1).2:=by unfold fK;rw[if_pos e]
def HB(ns:List aD):gx ns []=ns:=rfl
def xw(ns l:List aD)(s:aD):gx ns (s :: l)=gx (if ns.any (· == s)=true then ns else ns++[s]) l:=rfl
def PJ(ns l:List aD)(s:aD):gx ns (l++[s])=if(gx ns l).any (· == s)=true then gx ns l else gx ns l++[s]:=by
 unfold gx;rw[List.foldl_append];rfl
def Lb{ns:List aD}{s:aD}:ns.any (· == s)=true↔s∈ns:=by
 rw[cw];constructor
 ·rintro⟨x,hx,e⟩;rw[<-(by simpa using e:x=s)];exact hx
 ·intro h;exact⟨s,h,by simp⟩
def p8:∀(l ns:List aD),∃r,gx ns l=ns++r/\r.length<=l.length/\∀s∈r,s∈l
 |[],ns=>⟨[],by simp[HB],by simp,by simp⟩
 |x :: l,ns=>by
  rw[xw];split
  ·obtain⟨r,h1,h2,h3⟩:=p8 l ns
   exact⟨r,h1,by simp;omega,fun s hs=>by simp[h3 s hs]⟩
  ·obtain⟨r,h1,h2,h3⟩:=p8 l (ns++[x])
   refine⟨x :: r,by rw[h1];simp,by simp;omega,fun s hs =>?_⟩;rcases ag.1 hs with rfl|hs
   ·simp
   ·simp[h3 s hs]
def vk:∀(l ns:List aD),ns.Nodup->(gx ns l).Nodup
 |[],ns,h=>h
 |x :: l,ns,h=>by
  rw[xw];split
  ·exact vk l ns h
  ·rename_i hx
   refine vk l _ ?_;rw[e9];refine⟨h,by simp,fun a ha b hb e=>hx (Lb.2 ?_)⟩;simp at hb;subst hb;exact e▸ha
def HC:∀(l ns:List aD),∀s∈l,s∈gx ns l
 |[],_,s,h=>by simp at h
 |x :: l,ns,s,h=>by
  rw[xw];rcases ag.1 h with rfl|h
  ·split
   ·rename_i hx
    obtain⟨r,h1,_⟩:=p8 l ns;rw[h1];exact fj _ (Lb.1 hx)
   ·obtain⟨r,h1,_⟩:=p8 l (ns++[s])
    rw[h1];simp
  ·exact HC l _ s h
def EJ{ns l:List aD}{i:Nat}(h:i<l.length):gx ns (l.take (i+1))=if(gx ns (l.take i)).any (· == nth .str l i)=true then gx ns (l.take i)else gx ns (l.take i)++[nth .str l i]:=by
 rw[ig (t:=.str) h,PJ]
def sR{t:Ty}{a b:List (D t)}{i:Nat}(h:i<a.length):nth t (a++b) i=nth t a i:=by rw[pr,if_pos h]
structure kZ (rd:Rd) (root:aD) (i:Nat) (ns:List aD) (os:List (D aB)):Prop where
 eq:pF rd (7-i) i ns os=bJ rd root
 le:i<=6
 lo:i<=ns.length
 pos:0<ns.length
 len:os.length=i
 hi:ns.length<=1+4*i
 head:nth .str ns 0=root
 nd:ns.Nodup
 xx:∀j,j<i->fK rd (nth .str ns j)=0/\nth aB os j=kR rd (nth .str ns j)
 want:∀j,j<ns.length->j≠0->∃k,k<i/\k<j/\nth .str ns j∈(nth aB os k).1
 xr:∀j,j<i->∀s∈(nth aB os j).1,s∈ns
def kZ.zero(rd:Rd)(root:aD):kZ rd root 0 [root] []:=
 ⟨rfl,by omega,by simp,by simp,rfl,by simp,rfl,by simp,fun j h=>by omega,fun j h h'=>by simp at h;omega,fun j h=>by omega⟩
def kZ.room{rd:Rd}{root:aD}{i:Nat}{ns:List aD}{os:List (D aB)}(ok:iJ rd)(h:kZ rd root i ns os)(hi:i<ns.length)(hf:fK rd (nth .str ns i)=0):i+1<=6:=by
 obtain⟨K,hK,hm⟩:=ok.mm;have hsub:∀y∈ns.take (i+1),y∈K:=by
  intro y hy;obtain⟨j,hj,rfl⟩:=hH (t:=.str) hy;rw[bh]at hj;rw[AG (t:=.str) (by omega)];refine hm _ (ke ok ?_).1;rcases bg j i with hl|hl
  ·exact(h.xx j hl).1
  ·rw[show j=i by omega];exact hf
 have:=Es (h.nd.sublist (List.take_sublist (i+1) ns)) hsub;rw[bh]at this;omega
def kZ.fuel{rd:Rd}{root:aD}{i:Nat}{ns:List aD}{os:List (D aB)}(h:kZ rd root i ns os):pF rd (6-i+1) i ns os=bJ rd root:=by
 rw[<-h.eq];congr 1;have:=h.le;omega
def kZ.bad{rd:Rd}{root:aD}{i:Nat}{ns:List aD}{os:List (D aB)}(h:kZ rd root i ns os)(hi:i<ns.length)(hf:¬fK rd (nth .str ns i)=0) :
  bJ rd root=([],[],fK rd (nth .str ns i)):=by
 rw[<-h.fuel,pF,if_pos hi,if_neg hf]
def kZ.done{rd:Rd}{root:aD}{i:Nat}{ns:List aD}{os:List (D aB)}(h:kZ rd root i ns os)(hi:¬i<ns.length):bJ rd root=(ns,os,0):=by
 rw[<-h.fuel,pF,if_neg hi]
def AQ{rd:Rd}(ok:iJ rd){s:aD}(hf:fK rd s=0):kY (kR rd s):=mZ (vj (ke ok hf).2)
def kZ.next{rd:Rd}{root:aD}{i:Nat}{ns:List aD}{os:List (D aB)}(ok:iJ rd)(h:kZ rd root i ns os)(hi:i<ns.length)(hf:fK rd (nth .str ns i)=0) :
  kZ rd root (i+1) (gx ns (kR rd (nth .str ns i)).1) (os++[kR rd (nth .str ns i)]):=by
 have hr:=h.room ok hi hf;have ho:=AQ ok hf;obtain⟨r,h1,h2,h3⟩:=p8 (kR rd (nth .str ns i)).1 ns;have hn4:=ho.n4;have hlen:=h.len;have hhi:=h.hi;have hpos:=h.pos;have hos:nth aB (os++[kR rd (nth .str ns i)]) i=kR rd (nth .str ns i):=by rw[pr,if_neg (by omega),h.len,Nat.sub_self];rfl
 have hns:∀j,j<ns.length->nth .str (gx ns (kR rd (nth .str ns i)).1) j=nth .str ns j:=fun j hj=>by rw[h1,sR (t:=.str) hj]
 have hoj:∀j,j<i->nth aB (os++[kR rd (nth .str ns i)]) j=nth aB os j:=fun j hj=>sR (t:=aB) (by omega)
 refine⟨?_,hr,by rw[h1,aw];omega,by rw[h1,aw];omega,by rw[aw,h.len];rfl,by rw[h1,aw];omega,
  by rw[hns 0 hpos];exact h.head,vk _ _ h.nd,fun j hj =>?_,fun j hj h0 =>?_,fun j hj s hs =>?_⟩
 ·rw[<-h.fuel,pF,if_pos hi,if_pos hf];congr 1;omega
 ·rcases bg j i with hl|hl
  ·rw[hns j (by omega),hoj j hl];exact h.xx j hl
  ·rw[show j=i by omega,hns i hi,hos];exact⟨hf,rfl⟩
 ·rcases bg j ns.length with hl|hl
  ·obtain⟨k,k1,k2,k3⟩:=h.want j hl h0
   exact⟨k,by omega,k2,by rw[hns j hl,hoj k k1];exact k3⟩
  ·refine⟨i,by omega,by omega,?_⟩
   rw[hos,h1,pr,if_neg (by omega)];refine h3 _ (eJ (t:=.str) ?_);rw[h1,aw]at hj;omega
 ·rcases bg j i with hl|hl
  ·rw[hoj j hl]at hs
   rw[h1];exact fj _ (h.xr j hl s hs)
  ·rw[show j=i by omega,hos]at hs
   exact HC _ _ s hs
structure Scope (rd:Rd) (root:aD) (ns:List aD) (os:List (D aB)):Prop where
 le:ns.length<=6
 pos:0<ns.length
 len:os.length=ns.length
 head:nth .str ns 0=root
 nd:ns.Nodup
 xx:∀j,j<ns.length->fK rd (nth .str ns j)=0/\nth aB os j=kR rd (nth .str ns j)
 want:∀j,j<ns.length->j≠0->∃k,k<j/\nth .str ns j∈(nth aB os k).1
 xr:∀j,j<ns.length->∀s∈(nth aB os j).1,s∈ns
def Cg{rd:Rd}{root:aD}(ok:iJ rd):∀(m i:Nat) (ns:List aD) (os:List (D aB)),m=7-i->kZ rd root i ns os->
  (∃f,0<f/\bJ rd root=([],[],f))\/(∃ns os,bJ rd root=(ns,os,0)/\Scope rd root ns os)
 |0,i,ns,os,hm,h=>by have:=h.le;omega
 |m+1,i,ns,os,hm,h=>by
  by_cases hi:i<ns.length
  ·by_cases hf:fK rd (nth .str ns i)=0
   ·exact Cg ok m (i+1) _ _ (by omega) (h.next ok hi hf)
   ·have:=Dn ok (nth .str ns i)
    exact .inl ⟨_,by omega,h.bad hi hf⟩
  ·have h1:=h.lo
   have h2:=h.le;have e:i=ns.length:=by omega
   subst e;exact .inr ⟨ns,os,h.done hi,h2,h.pos,h.len,h.head,h.nd,h.xx,fun j hj h0=>let⟨k,_,k2,k3⟩:=h.want j hj h0;⟨k,k2,k3⟩,h.xr⟩
def zG{rd:Rd}(ok:iJ rd)(root:aD):(∃f,0<f/\bJ rd root=([],[],f))\/(∃ns os,bJ rd root=(ns,os,0)/\Scope rd root ns os):=
 Cg ok 7 0 _ _ rfl (kZ.zero rd root)
def AR{rd:Rd}(ok:iJ rd){root:aD}(h:(bJ rd root).2.2=0):Scope rd root (bJ rd root).1 (bJ rd root).2.1:=by
 rcases zG ok root with⟨f,hf,e⟩|⟨ns,os,e,h'⟩
 ·rw[e]at h;simp only at h;omega
 ·rw[e];exact h'
def jy{x:cX}(h:x.2.1.1.length<=6):iJ (aO x):=by
 refine⟨fun s =>?_,x.2.1.1.map px,by rw[ec];exact h,fun s hs =>?_⟩
 ·unfold aO;split
  ·exact .inl rfl
  ·exact .inr rfl
 ·by_cases c:cY cK x.2.1.1 s=true
  ·obtain⟨y,hy,e⟩:=l5.1 c
   rw[<-e];exact bw hy
  ·rw[lL (by simpa using c)]at hs;cases hs
def ug:∀{s:List Int} {l:List (D aY)} {out o:List Int},gS l s out=some o->∃ext,o=out++ext/\ext.length=s.length:=by
 intro s;induction s with
 |nil=>intro l out o h;simp only[gS,df]at h;exact⟨[],by simp[h],rfl⟩
 |cons n r ih=>
  intro l out o h;simp only[gS]at h;split at h
  ·cases h
  ·obtain⟨ext,h1,h2⟩:=ih h
   exact⟨_ :: ext,by rw[h1,cu];rfl,by simp[h2]⟩
def HD{l:List (D aY)}{s o:List Int}{k:Nat}(hk:k<s.length)(h:gS l (s.drop k) (o.take k)=some o)(hl:o.length=s.length) :
  (nth (.int .i64) o k:Int)=gv l (cM (nth (.int .i64) s k)) 40 0/\gv l (cM (nth (.int .i64) s k)) 40 0+cM (nth (.int .i64) s k)<=256/\
  gS (l++[(gv l (cM (nth (.int .i64) s k)) 40 0,cM (nth (.int .i64) s k),())]) (s.drop (k+1)) (o.take (k+1))=some o:=by
 rw[rZ hk]at h;split at h
 ·cases h
 ·rename_i hle
  obtain⟨ext,h1,h2⟩:=ug h;have hlen:(o.take k).length=k:=by rw[bh];omega
  have hget:o[k]?=some (gv l (cM (nth (.int .i64) s k)) 40 0):=by
   rw[h1,cu,List.getElem?_append_right (by omega),hlen,Nat.sub_self];rfl
  refine⟨jc (t:=.int .i64) hget,by omega,?_⟩;have:o.take (k+1)=o.take k++[gv l (cM (nth (.int .i64) s k)) 40 0]:=by
   rw[dx,hget];rfl
  rw[this];exact h
def MZ{s:List Int}{l:List (D aY)}(h:(cN (s,l)).2.isNil=true) :
  s.length<=6/\l.length<=20/\(∀j,j<s.length->1<=(nth (.int .i64) s j:Int)/\(nth (.int .i64) s j:Int)<=40)/\(∀y∈l,nP y)/\gS l s []=some (cN (s,l)).1/\(cN (s,l)).1.length=s.length:=by
 by_cases h1:6<s.length\/20<l.length
 ·rw[y7 h1]at h;cases h
 ·by_cases h2:AE s=true\/AF l=true
  ·unfold cN at h;rw[if_neg h1,if_pos h2]at h;cases h
  ·have hs:∀j,j<s.length->1<=(nth (.int .i64) s j:Int)/\(nth (.int .i64) s j:Int)<=40:=by
    intro j hj;apply aq;intro hn;rw[y8 h1 hj hn]at h;cases h
   have ht:∀j,j<l.length->nP (nth aY l j):=by
    intro j hj;apply aq;intro hn;rw[wY h1 hj hn]at h;cases h
   rw[wZ h1 hs ht]at h ⊢;refine⟨by omega,by omega,hs,fun y hy =>?_,?_⟩
   ·obtain⟨i,hi,e⟩:=hH (t:=aY) hy;rw[<-e];exact ht i hi
   ·split at h
    ·rename_i o ho
     obtain⟨ext,k1,k2⟩:=ug ho;simp only[ho];exact⟨aa,by rw[k1];simpa using k2⟩
    ·cases h
end Go.Mrl
namespace Go.Mrl
open Go.Vg
def JZ{n:Int}:n<=cM n/\cM n<n+16:=by unfold cM;omega
end Go.Mrl

namespace Go.Mrl
open Go.Vg
def ja(s:List Int):Nat->Int
 |0=>0
 |k+1=>ja s k+cM (nth (.int .i64) s k)
def vm(l:List (Int×Int×Unit))(S:Int):Prop:=0<=S/\(∃m:Nat,S=16*(m:Int))/\(∀y∈l,y.1+y.2.1<=S)/\∀p:Int,0<=p->p<S->∃y∈l,y.1<=p/\p<y.1+y.2.1
def vm.nil:vm [] 0:=⟨az _,⟨0,rfl⟩,fun y hy=>by simp at hy,fun p h1 h2=>by omega⟩
def vm.snoc{l:List (Int×Int×Unit)}{S m:Int}(h:vm l S)(hm:0<m)(h16:∃k:Nat,m=16*(k:Int)):vm (l++[(S,m,())]) (S+m):=by
 obtain⟨h1,⟨a,h2⟩,h3,h4⟩:=h;obtain⟨k,h5⟩:=h16;refine⟨by omega,⟨a+k,by omega⟩,fun y hy =>?_,fun p h6 h7 =>?_⟩
 ·rcases au.1 hy with hy|hy
  ·have:=h3 y hy;omega
  ·simp only[db]at hy;subst hy;simp only;omega
 ·by_cases c:p<S
  ·obtain⟨y,hy,h8⟩:=h4 p h6 c
   exact⟨y,by simp[hy],h8⟩
  ·exact⟨(S,m,()),by simp,by simp only;omega⟩
def vm.base{l:List (Int×Int×Unit)}{S many:Int}(h:vm l S)(hm:0<many):∀(n:Nat) (k:Nat),16*(k:Int)<=S->S-16*(k:Int)<16*(n:Int)->gv l many n (16*(k:Int))=S:=by
 obtain⟨h1,⟨a,h2⟩,h3,h4⟩:=h;intro n;induction n with
 |zero=>intro k hk hn;omega
 |succ n ih=>
  intro k hk hn;by_cases c:16*(k:Int)=S
  ·rw[c]
   apply qn;refine B5 fun j hj =>?_
   have:=h3 _ (eJ (t:=aY) hj);rw[JL];simp only;omega
  ·obtain⟨y,hy,h8,h9⟩:=h4 (16*(k:Int)) (by omega) (by omega)
   have hf:iZ (16*(k:Int),many,()) l=false:=by
    obtain⟨j,hj,e⟩:=hH (t:=aY) hy;refine y5 hj ?_;rw[e,wX];simp only;omega
   rw[El hf,show 16*(k:Int)+16=16*((k+1:Nat):Int) by omega];exact ih (k+1) (by omega) (by omega)
def Ve{n:Int}(h:1<=n):∃k:Nat,cM n=16*(k:Int):=⟨((n+15) / 16).toNat,by unfold cM;omega⟩
def M0{s:List Int}(hs:∀j,j<s.length->1<=(nth (.int .i64) s j:Int)/\(nth (.int .i64) s j:Int)<=40):∀d k,k+d<=s.length->ja s k<=ja s (k+d):=by
 intro d;induction d with
 |zero=>intro k _;exact az _
 |succ d ih=>
  intro k hk;have h1:=ih k (by omega);have h2:=hs (k+d) (by omega);have h3:=lr h2.1 h2.2;have e:ja s (k+(d+1))=ja s (k+d)+cM (nth (.int .i64) s (k+d)):=rfl;rw[e];omega
def SU{s:List Int}(hs:∀j,j<s.length->1<=(nth (.int .i64) s j:Int)/\(nth (.int .i64) s j:Int)<=40):∀(d k:Nat) {l:List (Int×Int×Unit)} {o:List Int},k+d=s.length->vm l (ja s k)->ja s k<=256->
  o.length=s.length->gS l (s.drop k) (o.take k)=some o->ja s s.length<=256/\∀i,k<=i->i<s.length->(nth (.int .i64) o i:Int)=ja s i:=by
 intro d;induction d with
 |zero=>
  intro k l o hk hc hle hl h;have e:k=s.length:=by omega
  subst e;exact⟨hle,fun i h1 h2=>by omega⟩
 |succ d ih=>
  intro k l o hk hc hle hl h;have h2:=hs k (by omega);have h3:=lr h2.1 h2.2;have hb:=hc.base (many:=cM (nth (.int .i64) s k)) (by omega) 40 0 (by have:=hc.1;omega) (by omega);simp only[Int.natCast_zero,Int.mul_zero]at hb;obtain⟨n1,n2,n3⟩:=HD (k:=k) (by omega) h hl;rw[hb]at n1 n2 n3;have e:ja s (k+1)=ja s k+cM (nth (.int .i64) s k):=rfl;obtain⟨r1,r2⟩:=ih (k+1) (by omega) (l:=l++[(ja s k,cM (nth (.int .i64) s k),())]) (by rw[e];exact hc.snoc (by omega) (Ve h2.1)) (by omega) hl n3;refine⟨r1,fun i h4 h5 =>?_⟩;rcases bg k i with c|c
  ·exact r2 i (by omega) h5
  ·rw[show i=k by omega];exact n1
def PK{s:List Int}(h:(cN (s,[])).2.isNil=true):(cN (s,[])).1.length=s.length/\(∀j,j<s.length->1<=(nth (.int .i64) s j:Int)/\(nth (.int .i64) s j:Int)<=40)/\
  ja s s.length<=256/\∀i,i<s.length->(nth (.int .i64) (cN (s,[])).1 i:Int)=ja s i:=by
 obtain⟨_,_,h3,_,h5,h6⟩:=MZ h;obtain⟨r1,r2⟩:=SU h3 s.length 0 (l:=[]) (o:=(cN (s,[])).1) (by omega) vm.nil (by simp[ja]) h6 (by rw[ef,fk];exact h5);exact⟨h6,h3,r1,fun i hi=>r2 i (ar _) hi⟩
def bZ(l:List (D aB)):List Int:=l.map fun o=>(o.2.1.length:Int)
def dB(l:List (D aB)):Ws:=l.map fun o=>o.2.1
def pG(l:List (D aB)):(bZ l).length=l.length:=by simp[bZ]
def nL(l:List (D aB)):(dB l).length=l.length:=by simp[dB]
def rC{t u:Ty}{f:D u->D t}{l:List (D u)}{i:Nat}(h:i<l.length):nth t (l.map f) i=f (nth u l i):=by
 unfold nth;rw[List.getD_eq_getElem?_getD,List.getD_eq_getElem?_getD,List.getElem?_map,List.getElem?_eq_getElem h];rfl
def Ch{l:List (D aB)}{i:Nat}(h:i<l.length):(nth (.int .i64) (bZ l) i:Int)=((nth aB l i).2.1.length:Int):=rC (u:=aB) (t:=.int .i64) h
def vo{l:List (D aB)}{i:Nat}(h:i<l.length):nth ji (dB l) i=(nth aB l i).2.1:=rC (u:=aB) (t:=ji) h
def zH{l:List (D aB)}{i:Nat}(h:i<l.length):bZ (l.take (i+1))=bZ (l.take i)++[((nth aB l i).2.1.length:Int)]:=by
 unfold bZ;rw[lK (t:=aB) h];simp
def zI{l:List (D aB)}{i:Nat}(h:i<l.length):dB (l.take (i+1))=dB (l.take i)++[(nth aB l i).2.1]:=by
 unfold dB;rw[lK (t:=aB) h];simp
def AS(l:List (D aB))(b:List Int)(i:Nat)(ts:List (D bD)):List Pt:=ts.map fun t=>((i:Int),t.1,(gT l b i t).1,())
def qZ(l:List (D aB))(b:List Int):List (D aB)->Nat->List Pt
 |[],_=>[]
 |o :: r,i=>AS l b i o.2.2.2.1++qZ l b r (i+1)
def Lc{l:List (D aB)}{b:List Int}{i:Nat}:∀{ts:List (D bD)} {out:List Pt},(od l b i ts out).2.isNil=true->od l b i ts out=(out++AS l b i ts,.nil)/\∀t∈ts,(gT l b i t).2.isNil=true
 |[],out,_=>⟨by simp[od,AS],by simp⟩
 |t :: r,out,h=>by
  rw[od]at h ⊢;by_cases c:(gT l b i t).2.isNil=true
  ·rw[if_pos c]at h ⊢
   obtain⟨h1,h2⟩:=Lc h;refine⟨by rw[h1];simp[AS],fun u hu =>?_⟩;rcases ag.1 hu with rfl|hu
   ·exact c
   ·exact h2 u hu
  ·rw[if_neg c]at h;exact absurd h c
def Ld{l:List (D aB)}{b:List Int}:∀{os:List (D aB)} {i:Nat} {out:List Pt},(nQ l b os i out).2.isNil=true->nQ l b os i out=(out++qZ l b os i,.nil)/\
  ∀k,k<os.length->∀t∈(nth aB os k).2.2.2.1,(gT l b ((i+k:Nat):Int) t).2.isNil=true
 |[],i,out,_=>⟨by simp[nQ,qZ],fun k hk=>by simp at hk⟩
 |o :: r,i,out,h=>by
  rw[nQ]at h ⊢;unfold oB at h ⊢;by_cases c:(od l b i o.2.2.2.1 out).2.isNil=true
  ·rw[if_pos c]at h ⊢
   obtain⟨h1,h2⟩:=Lc c;obtain⟨h3,h4⟩:=Ld h;refine⟨by rw[h3,h1];simp[qZ],fun k hk =>?_⟩;rcases k with _|k
   ·exact h2
   ·have:=h4 k (by simpa using hk)
    rw[show i+1+k=i+(k+1) by omega]at this;exact this
  ·rw[if_neg c]at h;exact absurd h c
def SW{l:List (D aB)}{b:List Int}(h:(iF (l,b)).2.isNil=true):b.length=l.length/\pL b/\(iF (l,b)).1=qZ l b l 0/\∀k,k<l.length->∀t∈(nth aB l k).2.2.2.1,(gT l b (k:Int) t).2.isNil=true:=by
 have h':=h;unfold iF at h ⊢;split at h
 ·cases h
 ·rename_i hl
  split at h
  ·rename_i hb
   obtain⟨h1,h2⟩:=Ld h;refine⟨aq hl,hb,?_,fun k hk t ht=>by have:=h2 k hk t ht;rwa [dh]at this⟩;rw[if_neg hl,if_pos hb,h1];rfl
  ·cases h
def AT{l:List (D aB)}{b:List Int}:∀{os:List (D aB)} {i:Nat} {p:Pt},p∈qZ l b os i->∃k t,k<os.length/\t∈(nth aB os k).2.2.2.1/\p=(((i+k:Nat):Int),t.1,(gT l b ((i+k:Nat):Int) t).1,())
 |[],i,p,h=>by simp[qZ]at h
 |o :: r,i,p,h=>by
  rcases au.1 h with h|h
  ·obtain⟨t,ht,rfl⟩:=bf.1 h
   exact⟨0,t,by simp,ht,rfl⟩
  ·obtain⟨k,t,hk,ht,rfl⟩:=AT h
   exact⟨k+1,t,by simp;omega,ht,by rw[show i+1+k=i+(k+1) by omega]⟩
def Ci(x:List Int×List (D aY)):Told (cN x).2:=by
 unfold cN;split
 ·rfl
 ·split
  ·rfl
  ·split <;> rfl
def SX(x:Ws×List Pt):Told (iX x).2:=by
 unfold iX;split <;> rfl
def rk{e:aK}(h:Told e):aI (jK e)=e:=by
 cases e with
 |nil=>rfl
 |no m=>
  have h':0<m:=by have:=h;simpa[Told,ym,jK]using this
  have h2:¬m=0:=by omega
  show aI m=_;unfold aI;rw[if_neg h2]
 |other=>unfold Told at h;simp[ym]at h
def HE{e:aK}(h:Told e)(hn:e.isNil=false):0<jK e:=by
 cases e with
 |nil=>cases hn
 |no m=>
  have h':0<m:=by have:=h;simpa[Told,ym,jK]using this
  exact h'
 |other=>unfold Told at h;simp[ym]at h
abbrev Rk:=List aD×List (D aB)×List Int×List Pt×Int
def bB(rd:Rd)(root:aD):Rk:=
 if ¬(bJ rd root).2.2=0 then([],[],[],[],(bJ rd root).2.2)
 else if(cN (bZ (bJ rd root).2.1,[])).2.isNil=false then([],[],[],[],jK (cN (bZ (bJ rd root).2.1,[])).2)
 else if(iF ((bJ rd root).2.1,(cN (bZ (bJ rd root).2.1,[])).1)).2.isNil=false then([],[],[],[],jK (iF ((bJ rd root).2.1,(cN (bZ (bJ rd root).2.1,[])).1)).2)
 else((bJ rd root).1,(bJ rd root).2.1,(cN (bZ (bJ rd root).2.1,[])).1,(iF ((bJ rd root).2.1,(cN (bZ (bJ rd root).2.1,[])).1)).1,0)
def xy{rd:Rd}{root:aD}(h:¬(bJ rd root).2.2=0):bB rd root=([],[],[],[],(bJ rd root).2.2):=by unfold bB;rw[if_pos h]
def xz{rd:Rd}{root:aD}(h:(bJ rd root).2.2=0)(h1:(cN (bZ (bJ rd root).2.1,[])).2.isNil=false):bB rd root=([],[],[],[],jK (cN (bZ (bJ rd root).2.1,[])).2):=by
 unfold bB;rw[if_neg (not_not_intro h),if_pos h1]
def Cj{rd:Rd}{root:aD}(h:(bJ rd root).2.2=0)(h1:(cN (bZ (bJ rd root).2.1,[])).2.isNil=true)(h2:(iF ((bJ rd root).2.1,(cN (bZ (bJ rd root).2.1,[])).1)).2.isNil=false) :
  bB rd root=([],[],[],[],jK (iF ((bJ rd root).2.1,(cN (bZ (bJ rd root).2.1,[])).1)).2):=by
 unfold bB;rw[if_neg (not_not_intro h),if_neg (by rw[h1];decide),if_pos h2]
def zJ{rd:Rd}{root:aD}(h:(bJ rd root).2.2=0)(h1:(cN (bZ (bJ rd root).2.1,[])).2.isNil=true)(h2:(iF ((bJ rd root).2.1,(cN (bZ (bJ rd root).2.1,[])).1)).2.isNil=true) :
  bB rd root=((bJ rd root).1,(bJ rd root).2.1,(cN (bZ (bJ rd root).2.1,[])).1,(iF ((bJ rd root).2.1,(cN (bZ (bJ rd root).2.1,[])).1)).1,0):=by
 unfold bB;rw[if_neg (not_not_intro h),if_neg (by rw[h1];decide),if_neg (by rw[h2];decide)]
structure kx (rd:Rd) (root:aD) (ns:List aD) (os:List (D aB)) (bs:List Int) (ps:List Pt):Prop where
 e:bJ rd root=(ns,os,0)
 sc:Scope rd root ns os
 eb:cN (bZ os,[])=(bs,.nil)
 ea:iF (os,bs)=(ps,.nil)
 bl:bs.length=os.length
 bi:pL bs
 pt:ps=qZ os bs os 0
 one:∀k,k<os.length->∀t∈(nth aB os k).2.2.2.1,(gT os bs (k:Int) t).2.isNil=true
 Xl:∀i,i<ps.length->ua (dB os) (nth aR ps i)
def EK{e:aK}(h:e.isNil=true):e=.nil:=by cases e <;> first|rfl|cases h
def Scope.obj{rd:Rd}{root:aD}{ns:List aD}{os:List (D aB)}(ok:iJ rd)(h:Scope rd root ns os){i:Nat}(hi:i<os.length):kY (nth aB os i):=by
 have:=h.xx i (by rw[<-h.len];exact hi);rw[this.2];exact AQ ok this.1
def kY.SY{o:D aB}(h:kY o):Uw o:=by
 refine⟨by have:=h.t6;omega,fun i hi =>?_,fun i hi =>?_⟩
 ·have:=(h.sym hi).2;unfold il at this;unfold Small;omega
 ·have:=h.tie hi
  have a:=this.a;have w:=this.w;unfold il at a w;unfold Small Word;omega
def Scope.SY{rd:Rd}{root:aD}{ns:List aD}{os:List (D aB)}(ok:iJ rd)(h:Scope rd root ns os):jN os:=⟨by have:=h.le;have:=h.len;omega,fun _ hi=>(h.obj ok hi).SY⟩
def PL{a n:Int}(h:a<=n-1):a<n:=by omega
def J0{o:D aB}(h:dA o=0):ic o.2.1.length [] o.2.2.1=0/\kO o.2.1.length none o.2.2.2.1=0:=by
 unfold dA at h;split at h
 ·cases h
 ·split at h
  ·rename_i h1;exact absurd h h1
  ·split at h
   ·rename_i h2;exact absurd h h2
   ·split at h
    ·rename_i h3;exact absurd h h3
    ·rename_i h3;exact⟨aq h3,h⟩
def M1{o:D aB}(h:dA o=0){t:D bD}(ht:t∈o.2.2.2.1):0<=t.1/\t.1<(o.2.1.length:Int):=by
 obtain⟨p,hp⟩:=vg _ _ _ (J0 h).2 t ht;obtain⟨⟨a,b⟩,_⟩:=EC hp;exact⟨a,PL b⟩
def Scope.fault{rd:Rd}{root:aD}{ns:List aD}{os:List (D aB)}(ok:iJ rd)(h:Scope rd root ns os){i:Nat}(hi:i<os.length):dA (nth aB os i)=0:=by
 have:=h.xx i (by rw[<-h.len];exact hi);rw[this.2];exact vj (ke ok this.1).2
def sa{rd:Rd}(ok:iJ rd)(root:aD):(∃f,0<f/\bB rd root=([],[],[],[],f))\/(∃ns os bs ps,bB rd root=(ns,os,bs,ps,0)/\kx rd root ns os bs ps):=by
 rcases zG ok root with⟨f,hf,e⟩|⟨ns,os,e,sc⟩
 ·exact .inl ⟨f,hf,by rw[xy (by rw[e];simp only;omega),e]⟩
 ·have e0:(bJ rd root).2.2=0:=by rw[e]
  have e1:(bJ rd root).2.1=os:=by rw[e]
  have e2:(bJ rd root).1=ns:=by rw[e]
  cases hb:(cN (bZ os,[])).2.isNil with
  |false=>exact .inl ⟨_,HE (Ci _) hb,by rw[xz e0 (by rw[e1];exact hb),e1]⟩
  |true=>
   cases ha:(iF (os,(cN (bZ os,[])).1)).2.isNil with
   |false=>exact .inl ⟨_,HE (He _) ha,by rw[Cj e0 (by rw[e1];exact hb) (by rw[e1];exact ha),e1]⟩
   |true=>
    obtain⟨a1,a2,a3,a4⟩:=SW ha;refine .inr ⟨ns,os,_,_,by rw[zJ e0 (by rw[e1];exact hb) (by rw[e1];exact ha),e1,e2],e,sc,Prod.ext rfl (EK hb),Prod.ext rfl (EK ha),a1,a2,a3,a4,fun i hi =>?_⟩;obtain⟨k,t,hk,ht,hp⟩:=AT (by rw[<-a3];exact eJ (t:=aR) hi);rw[hp];have:=M1 (sc.fault ok hk) ht;refine⟨by simp only;omega,by simp only;rw[nL];omega,this.1,?_⟩;simp only[dh];rw[show((k:Int)).toNat=k from rfl,vo hk];exact this.2
def jd(ns:List aD)(bs:List Int)(w:Ws)(n:Nat):List (D dH):=(ba n).map fun i=>(nth .str ns i,nth (.int .i64) bs i,nth ji w i,())
def M3(ns:List aD)(bs:List Int)(w:Ws)(n:Nat):(jd ns bs w n).length=n:=by simp[jd]
def zK(ns:List aD)(bs:List Int)(w:Ws)(n:Nat):jd ns bs w (n+1)=jd ns bs w n++[(nth .str ns n,nth (.int .i64) bs n,nth ji w n,())]:=by simp[jd,cq]
def jM(ns:List aD)(bs:List Int)(os:List (D aB))(ps:List Pt):List (D dH)×aK:=
 if ¬ns.length=os.length\/¬bs.length=os.length then([],.no 3)
 else if(iX (dB os,ps)).2.isNil=false then([],(iX (dB os,ps)).2)
 else(jd ns bs (iX (dB os,ps)).1 os.length,.nil)
def Ck{ns:List aD}{bs:List Int}{os:List (D aB)}{ps:List Pt}(h:¬ns.length=os.length\/¬bs.length=os.length):jM ns bs os ps=([],.no 3):=by unfold jM;rw[if_pos h]
def SZ{ns:List aD}{bs:List Int}{os:List (D aB)}{ps:List Pt}(h:ns.length=os.length)(h':bs.length=os.length)(hp:(iX (dB os,ps)).2.isNil=false):jM ns bs os ps=([],(iX (dB os,ps)).2):=by
 unfold jM;rw[if_neg (by rintro(e|e);exact e h;exact e h'),if_pos hp]
def Dp{ns:List aD}{bs:List Int}{os:List (D aB)}{ps:List Pt}(h:ns.length=os.length)(h':bs.length=os.length)(hp:(iX (dB os,ps)).2.isNil=true):jM ns bs os ps=(jd ns bs (iX (dB os,ps)).1 os.length,.nil):=by
 unfold jM;rw[if_neg (by rintro(e|e);exact e h;exact e h'),if_neg (by rw[hp];decide)]
def HF(ns:List aD)(bs:List Int)(os:List (D aB))(ps:List Pt):Told (jM ns bs os ps).2:=by
 unfold jM;split
 ·rfl
 ·split
  ·exact SX _
  ·rfl
def jb(rd:Rd)(root:aD):List (D dH)×Int:=
 if ¬(bB rd root).2.2.2.2=0 then([],(bB rd root).2.2.2.2)
 else((jM (bB rd root).1 (bB rd root).2.2.1 (bB rd root).2.1 (bB rd root).2.2.2.1).1,jK (jM (bB rd root).1 (bB rd root).2.2.1 (bB rd root).2.1 (bB rd root).2.2.2.1).2)
def kx.put{rd:Rd}{root:aD}{ns:List aD}{os:List (D aB)}{bs:List Int}{ps:List Pt}(h:kx rd root ns os bs ps):iX (dB os,ps)=(lu (dB os) ps,.nil):=yp h.Xl
def kx.lay{rd:Rd}{root:aD}{ns:List aD}{os:List (D aB)}{bs:List Int}{ps:List Pt}(h:kx rd root ns os bs ps):jM ns bs os ps=(jd ns bs (lu (dB os) ps) os.length,.nil):=by
 rw[Dp h.sc.len.symm h.bl (by rw[h.put];rfl),h.put]
def S3{rd:Rd}{root:aD}(h:¬(bB rd root).2.2.2.2=0):jb rd root=([],(bB rd root).2.2.2.2):=by unfold jb;rw[if_pos h]
def Vf{rd:Rd}{root:aD}{ns:List aD}{os:List (D aB)}{bs:List Int}{ps:List Pt}(e:bB rd root=(ns,os,bs,ps,0))(h:kx rd root ns os bs ps):jb rd root=(jd ns bs (lu (dB os) ps) os.length,0):=by
 unfold jb;rw[e,if_neg (by simp),h.lay];rfl
def kx.sum{rd:Rd}{root:aD}{ns:List aD}{os:List (D aB)}{bs:List Int}{ps:List Pt}(h:kx rd root ns os bs ps) :
  (∀j,j<os.length->1<=(nth aB os j).2.1.length/\(nth aB os j).2.1.length<=40)/\ja (bZ os) os.length<=256/\∀i,i<os.length->(nth (.int .i64) bs i:Int)=ja (bZ os) i:=by
 have hb:(cN (bZ os,[])).2.isNil=true:=by rw[h.eb];rfl
 have hn:(cN (bZ os,[])).1=bs:=by rw[h.eb]
 obtain⟨_,h2,h3,h4⟩:=PK hb;rw[hn]at h4;have hl:=pG os;refine⟨fun j hj =>?_,by rw[hl]at h3;exact h3,fun i hi=>h4 i (by omega)⟩;have:=h2 j (by omega);rw[Ch hj]at this;exact⟨dc.1 this.1,dc.1 this.2⟩
def Xx(p:D dH)(a:Int):Prop:=(p.2.1:Int)<=a/\a<(p.2.1:Int)+(p.2.2.1.length:Int)
instance(p:D dH)(a:Int):Decidable (Xx p a):=inferInstanceAs (Decidable (_/\_))
def PM{rd:Rd}(ok:iJ rd){root:aD}(h:(bJ rd root).2.2=0):(bJ rd root).2.1.length<=6:=by
 have:=(AR ok h).le;have:=(AR ok h).len;omega
def M4{rd:Rd}(ok:iJ rd){root:aD}(h:(bJ rd root).2.2=0):jN (bJ rd root).2.1:=(AR ok h).SY ok
def Vh{l:List (D aB)}(h:l.length<=1000/\∀i,i<l.length->(nth aB l i).2.1.length<=1000) :
  (dB l).length<=100000/\∀i,i<(dB l).length->(nth ji (dB l) i).length<=100000000:=by
 refine⟨by rw[nL];omega,fun i hi =>?_⟩;rw[nL]at hi;rw[vo hi];have:=h.2 i hi;omega
def M5{rd:Rd}(ok:iJ rd){root:aD}{ns:List aD}{os:List (D aB)}(h:Scope rd root ns os):os.length<=1000/\∀i,i<os.length->(nth aB os i).2.1.length<=1000:=by
 refine⟨by have:=h.le;have:=h.len;omega,fun i hi =>?_⟩;exact b5 (h.obj ok hi).Uy (by decide)
def HG{rd:Rd}(ok:iJ rd){root:aD}(h:(bB rd root).2.2.2.2=0) :
  (bB rd root).2.1.length<=1000/\∀i,i<(bB rd root).2.1.length->(nth aB (bB rd root).2.1 i).2.1.length<=1000:=by
 rcases sa ok root with⟨f,hf,e⟩|⟨ns,os,bs,ps,e,hr⟩
 ·rw[e]at h;simp at h;omega
 ·rw[e];exact M5 ok hr.sc
def S4{rd:Rd}{root:aD}(h:(bB rd root).2.2.2.2=0) :
  ((jM (bB rd root).1 (bB rd root).2.2.1 (bB rd root).2.1 (bB rd root).2.2.2.1).1,(jM (bB rd root).1 (bB rd root).2.2.1 (bB rd root).2.1 (bB rd root).2.2.2.1).2,())=
   ((jb rd root).1,aI (jb rd root).2,()):=by
 unfold jb;rw[if_neg (not_not_intro h)];simp only[rk (HF _ _ _ _)]
def dX{f:Int}(h:(aI f).isNil=false):¬f=0:=fun e=>by rw[aQ.2 e]at h;cases h
def S5(x:List (D aB)×List Int):aI (jK (iF x).2)=(iF x).2:=rk (He x)
def HH{α:Type}{l:List α}{i:Nat}(h:¬i<l.length):l.take i=l:=cg (by omega)
abbrev Uz:=Unit×List (List UInt8)×List Int×List (D aS)×List (D bD)×(Bool×Unit)×Unit
def S6(x:Uz):D aB:=(x.2.1,x.2.2.1,x.2.2.2.1,x.2.2.2.2.1,())
def PN(p:D aB×Bool):Uz:=((),p.1.1,p.1.2.1,p.1.2.2.1,p.1.2.2.2.1,(p.2,()),())
def HI(s p:aD):(ax s p).length<=s.length:=by unfold ax;split <;> simp
def Le{s:aD}{w:List aD}(hw:w=parts 32 (ax s dS))(i:Nat):(nth .str w i).length<=s.length:=by
 by_cases h:i<w.length
 ·have h1:=eJ (t:=.str) h
  rw[hw]at h1;have:=oM _ _ _ h1;rw[<-hw]at this;exact b5 this (HI _ _)
 ·unfold nth;rw[List.getD_eq_getElem?_getD,List.getElem?_eq_none (by omega)];exact ar _
def S7{s:aD}{w:List aD}(hw:w=parts 32 (ax s dS)):0<w.length:=by rw[hw];exact List.length_pos_iff.2 (AI _ _)
def l6{c:Bool}{P:Prop}(q:c=true↔P)(h:c=false):¬P:=fun p=>by rw[q.2 p]at h;cases h
section
variable{o:D aB}{b:Bool}{s:aD}{w:List aD}(hw:w=parts 32 (ax s dS))
include hw
def M6(h:nth .str w 0=ko/\w.length=2):gC o b s=(p5 o (nth .str w 1),b):=by
 unfold gC;simp only;rw[<-hw,if_pos h]
def M7(h0:¬(nth .str w 0=ko/\w.length=2))(h:nth .str w 0=jU/\w.length=2):gC o b s=(p7 o (dV (nth .str w 1)).1,b || (cS (nth .str w 1)).isNone):=by
 unfold gC;simp only;rw[<-hw,if_neg h0,if_pos h]
def PO(h0:¬(nth .str w 0=ko/\w.length=2))(h1:¬(nth .str w 0=jU/\w.length=2))(h:nth .str w 0=jj/\w.length=3) :
  gC o b s=(uf o (nth .str w 1,(dV (nth .str w 2)).1,av s dS,()),b || (cS (nth .str w 2)).isNone):=by
 unfold gC;simp only;rw[<-hw,if_neg h0,if_neg h1,if_pos h]
def M8(h0:¬(nth .str w 0=ko/\w.length=2))(h1:¬(nth .str w 0=jU/\w.length=2))(h2:¬(nth .str w 0=jj/\w.length=3))(h:nth .str w 0=mK/\w.length=3) :
  gC o b s=(pB o ((dV (nth .str w 1)).1,1,(dV (nth .str w 2)).1,[],false,()),(b || (cS (nth .str w 1)).isNone) || (cS (nth .str w 2)).isNone):=by
 unfold gC;simp only;rw[<-hw,if_neg h0,if_neg h1,if_neg h2,if_pos h]
def EL(h0:¬(nth .str w 0=ko/\w.length=2))(h1:¬(nth .str w 0=jU/\w.length=2))(h2:¬(nth .str w 0=jj/\w.length=3))(h3:¬(nth .str w 0=mK/\w.length=3))
  (h:(nth .str w 0=lC\/nth .str w 0=lg)/\w.length=4){k:Int}(hk:k=if nth .str w 0=lg then 3 else 2) :
  gC o b s=(pB o ((dV (nth .str w 1)).1,k,(dV (nth .str w 2)).1,nth .str w 3,av s dS,()),(b || (cS (nth .str w 1)).isNone) || (cS (nth .str w 2)).isNone):=by
 unfold gC;simp only;rw[<-hw,if_neg h0,if_neg h1,if_neg h2,if_neg h3,if_pos h,hk]
def M9(h0:¬(nth .str w 0=ko/\w.length=2))(h1:¬(nth .str w 0=jU/\w.length=2))(h2:¬(nth .str w 0=jj/\w.length=3))(h3:¬(nth .str w 0=mK/\w.length=3))
  (h:¬((nth .str w 0=lC\/nth .str w 0=lg)/\w.length=4)):gC o b s=(o,true):=by
 unfold gC;simp only;rw[<-hw,if_neg h0,if_neg h1,if_neg h2,if_neg h3,if_neg h]
end
def og(s:aD):D aB×aK:=((cU s).1,aI (cU s).2)
def Na{s:aD}(h:s.length > 1200):(bY aB,aK.no 2)=og s:=by unfold og;rw[EI h];rfl
def lD.run{L:List aD}{i:Nat}{o:D aB}{b:Bool}(h:lD L i o b)(hi:¬i<L.length):(run pC (bY aB) L=some o/\b=false)\/(run pC (bY aB) L=none/\b=true):=by
 have:=h.st
 rwa [cg (by omega)]at this
def xA{s:aD}{i:Nat}{o:D aB}{b:Bool}(h:lD (parts 10 (ae s [10])) i o b)(hi:¬i<(parts 10 (ae s [10])).length)(hl:¬s.length > 1200)
  (hb:b=true\/(kn o).2.isNil=false\/¬(kn o).1=s):(bY aB,aK.no 4)=og s:=by
 have:cU s=(bY aB,4):=by
  rcases h.run hi with⟨hr,h0⟩|⟨hr,h0⟩
  ·rcases hb with hb|hb|hb
   ·rw[hb]at h0;cases h0
   ·refine Ce hl hr fun hf ht =>?_
    rw[vh hf rfl (by show(iI o).length<=1200;rw[ht];omega)]at hb;cases hb
   ·refine Ce hl hr fun hf ht=>hb ?_
    rw[vh hf rfl (by show(iI o).length<=1200;rw[ht];omega)];exact ht
  ·exact MX hl hr
 unfold og;rw[this];rfl
def S8{s:aD}{o:D aB}(hl:¬s.length > 1200)
  (hn:(kn o).2.isNil=true)(ht:(kn o).1=s):(o,aK.nil)=og s:=by
 have hf:dA o=0:=by
  apply aq;intro hf;rw[EF hf]at hn;exact hf (aQ.1 hn)
 have hs:iI o=s:=by
  by_cases h:(iI o).length > 1200
  ·rw[Cc hf rfl h]at hn;cases hn
  ·rw[vh hf rfl (by show(iI o).length<=1200;omega)]at ht;exact ht
 unfold og;rw[Dm hl hf hs];rfl
def yw(s p:aD):(ae s p).length<=s.length:=by unfold ae;split <;> simp
def PQ(s:aD)(h:s.length<=1200):(parts 10 (ae s [10])).length<=1201:=by
 have h1:=sO 10 (ae s [10]);have h2:(ae s [10]).length<=s.length:=by unfold ae;split <;> simp
 omega
def Nb{s:aD}(h:s.length<=1200)(i:Nat):(nth .str (parts 10 (ae s [10])) i).length<=1200:=by
 by_cases hi:i<(parts 10 (ae s [10])).length
 ·have:=oM _ _ _ (eJ (t:=.str) hi)
  have h2:(ae s [10]).length<=s.length:=by unfold ae;split <;> simp
  omega
 ·unfold nth;rw[List.getD_eq_getElem?_getD,List.getElem?_eq_none (by omega)];exact ar _
section
variable{o:D aB}{b:Bool}{w:List aD}{k:Nat}
end
def eT{k n:Nat}(h:(k:Int)<(n:Int)):(decide ((k:Int)<3))=true↔((k:Int)<(n:Int)/\(k:Int)<3):=by
 rw[decide_eq_true_eq];omega
def cF(rd:Rd)(ns:List aD)(bs:List Int)(n:Nat):List (D aG):=(ba n).map fun i=>(nth .str ns i,(rd (nth .str ns i)).2.1,nth (.int .i64) bs i,())
def ia(rd:Rd)(ns:List aD)(bs:List Int)(n:Nat):(cF rd ns bs n).length=n:=by simp[cF]
def xB(rd:Rd)(ns:List aD)(bs:List Int)(n:Nat):cF rd ns bs (n+1)=cF rd ns bs n++[(nth .str ns n,(rd (nth .str ns n)).2.1,nth (.int .i64) bs n,())]:=by simp[cF,cq]
def my{rd:Rd}{ns:List aD}{bs:List Int}{n i:Nat}(h:i<n):nth aG (cF rd ns bs n) i=(nth .str ns i,(rd (nth .str ns i)).2.1,nth (.int .i64) bs i,()):=by
 apply jc;simp[cF,h]
def dZ(rd:Rd)(root:aD):D aC×Int:=
 if ¬(bB rd root).2.2.2.2=0 then(bY aC,(bB rd root).2.2.2.2)
 else((root,cF rd (bB rd root).1 (bB rd root).2.2.1 (bB rd root).1.length,(bB rd root).2.2.2.1,()),0)
def HJ{rd:Rd}{root:aD}(h:¬(bB rd root).2.2.2.2=0):dZ rd root=(bY aC,(bB rd root).2.2.2.2):=by unfold dZ;rw[if_pos h]
def Lf{rd:Rd}{root:aD}(h:(bB rd root).2.2.2.2=0):dZ rd root=((root,cF rd (bB rd root).1 (bB rd root).2.2.1 (bB rd root).1.length,(bB rd root).2.2.2.1,()),0):=by
 unfold dZ;rw[if_neg (not_not_intro h)]
def Nc{rd:Rd}(ok:iJ rd)(root:aD):(∃f,0<f/\bB rd root=([],[],[],[],f)/\dZ rd root=(bY aC,f))\/
  (∃ns os bs ps,bB rd root=(ns,os,bs,ps,0)/\kx rd root ns os bs ps/\dZ rd root=((root,cF rd ns bs ns.length,ps,()),0)):=by
 rcases sa ok root with⟨f,hf,e⟩|⟨ns,os,bs,ps,e,h⟩
 ·exact .inl ⟨f,hf,e,by rw[HJ (by rw[e];simp only;omega),e]⟩
 ·exact .inr ⟨ns,os,bs,ps,e,h,by rw[Lf (by rw[e]),e]⟩
def je(rd:Rd)(p:D aG):Bool:=decide ((rd p.1).2.2=0)&&decide ((rd p.1).2.1=p.2.1)
def gI(rd:Rd)(e:D aC):Bool:=e.2.1.all (je rd)&&decide (0<e.2.1.length)
def HK{rd:Rd}{e:D aC}{i:Nat}(h:i<e.2.1.length)(hf:je rd (nth aG e.2.1 i)=false):gI rd e=false:=by
 unfold gI;have:e.2.1.all (je rd)=false:=c6.2 ⟨_,eJ (t:=aG) h,by rw[hf];decide⟩;rw[this];rfl
def EM{rd:Rd}{e:D aC}(h:∀i,i<e.2.1.length->je rd (nth aG e.2.1 i)=true):gI rd e=decide (0<e.2.1.length):=by
 unfold gI;have:e.2.1.all (je rd)=true:=ca.2 fun x hx=>by
  obtain⟨i,hi,rfl⟩:=hH (t:=aG) hx;exact h i hi
 rw[this];rfl
def PR{rd:Rd}{e:D aC}(h:gI rd e=true):0<e.2.1.length/\∀i,i<e.2.1.length->(rd (nth aG e.2.1 i).1).2.2=0/\(rd (nth aG e.2.1 i).1).2.1=(nth aG e.2.1 i).2.1:=by
 unfold gI at h;rw[af,ca,decide_eq_true_eq]at h;refine⟨h.2,fun i hi =>?_⟩;have:=h.1 _ (eJ (t:=aG) hi);unfold je at this;rw[af,decide_eq_true_eq,decide_eq_true_eq]at this;exact this
def mL(rd:Rd):List (D aG)->Int
 |[]=>0
 |p :: r=>if(cU (rd p.1).1).2=0 then mL rd r else(cU (rd p.1).1).2
def fN(rd:Rd)(l:List (D aG)):List (D aB):=l.map fun p=>(cU (rd p.1).1).1
def fR(l:List (D aG)):List aD:=l.map fun p=>p.1
def fS(l:List (D aG)):List Int:=l.map fun p=>p.2.2.1
def HM{rd:Rd}:∀{l:List (D aG)} {i:Nat},(∀j,j<i->(cU (rd (nth aG l j).1).1).2=0)->i<l.length->¬(cU (rd (nth aG l i).1).1).2=0->mL rd l=(cU (rd (nth aG l i).1).1).2
 |[],i,_,h,_=>by simp at h
 |p :: r,0,_,_,h=>by unfold mL;rw[if_neg (show ¬(cU (rd p.1).1).2=0 from h)];rfl
 |p :: r,i+1,h,h1,h2=>by
  unfold mL;rw[if_pos (show(cU (rd p.1).1).2=0 from h 0 (by omega))];exact HM (l:=r) (i:=i) (fun j hj=>h (j+1) (by omega)) (by simpa using h1) h2
def vp{rd:Rd}:∀{l:List (D aG)},(∀j,j<l.length->(cU (rd (nth aG l j).1).1).2=0)->mL rd l=0
 |[],_=>rfl
 |p :: r,h=>by
  unfold mL;rw[if_pos (show(cU (rd p.1).1).2=0 from h 0 (by simp))];exact vp (l:=r) fun j hj=>h (j+1) (by simpa using hj)
def HN(rd:Rd):∀l:List (D aG),0<=mL rd l
 |[]=>az _
 |p :: r=>by
  unfold mL;split
  ·exact HN rd r
  ·exact zF _
def ky(rd:Rd)(e:D aC):List (D dH)×Int:=
 if gI rd e=false then([],10)
 else if ¬mL rd e.2.1=0 then([],mL rd e.2.1)
 else((jM (fR e.2.1) (fS e.2.1) (fN rd e.2.1) e.2.2.1).1,jK (jM (fR e.2.1) (fS e.2.1) (fN rd e.2.1) e.2.2.1).2)
def PS{rd:Rd}{e:D aC}(h:gI rd e=false):ky rd e=([],10):=by unfold ky;rw[if_pos h]
def Vi{rd:Rd}{e:D aC}(h:gI rd e=true){f:Int}(hb:mL rd e.2.1=f)(h0:¬f=0):ky rd e=([],f):=by
 unfold ky;rw[if_neg (by rw[h];decide),if_pos (by rw[hb];exact h0),hb]
def PT{rd:Rd}{e:D aC}(h:gI rd e=true)(hb:mL rd e.2.1=0) :
  ky rd e=((jM (fR e.2.1) (fS e.2.1) (fN rd e.2.1) e.2.2.1).1,jK (jM (fR e.2.1) (fS e.2.1) (fN rd e.2.1) e.2.2.1).2):=by
 unfold ky;rw[if_neg (by rw[h];decide),if_neg (not_not_intro hb)]
def lE{t:Ty}{a b:List (D t)}(hl:a.length=b.length)(h:∀i,i<a.length->nth t a i=nth t b i):a=b:=tq (t:=t) hl h
def HO{rd:Rd}{ns:List aD}{bs:List Int}:fR (cF rd ns bs ns.length)=ns:=by
 refine lE (t:=.str) (by simp[fR,cF]) fun i hi =>?_
 have hi':i<ns.length:=by simpa[fR,cF]using hi
 unfold fR;rw[rC (u:=aG) (t:=.str) (by rw[ia];exact hi'),my hi']
def HP{rd:Rd}{ns:List aD}{bs:List Int}(h:bs.length=ns.length):fS (cF rd ns bs ns.length)=bs:=by
 refine lE (t:=.int .i64) (by simp[fS,cF,h]) fun i hi =>?_
 have hi':i<ns.length:=by simpa[fS,cF]using hi
 unfold fS;rw[rC (u:=aG) (t:=.int .i64) (by rw[ia];exact hi'),my hi']
def kx.fresh{rd:Rd}(ok:iJ rd){root:aD}{ns:List aD}{os:List (D aB)}{bs:List Int}{ps:List Pt}(h:kx rd root ns os bs ps):gI rd (root,cF rd ns bs ns.length,ps,())=true:=by
 rw[EM]
 ·exact decide_eq_true (by show 0<(cF rd ns bs ns.length).length;rw[ia];exact h.sc.pos)
 ·intro i hi
  have hi:i<ns.length:=by have:i<(cF rd ns bs ns.length).length:=hi;rwa [ia]at this
  show je rd (nth aG (cF rd ns bs ns.length) i)=true;rw[my hi];unfold je;rw[decide_eq_true (ke ok (h.sc.xx i hi).1).1,decide_eq_true rfl];rfl
def kx.aF{rd:Rd}{root:aD}{ns:List aD}{os:List (D aB)}{bs:List Int}{ps:List Pt}(h:kx rd root ns os bs ps){rd':Rd}(hs:∀s∈ns,(rd' s).1=(rd s).1):fN rd' (cF rd ns bs ns.length)=os:=by
 refine lE (t:=aB) (by simp[fN,cF,h.sc.len]) fun i hi =>?_
 have hi':i<ns.length:=by simpa[fN,cF]using hi
 unfold fN;rw[rC (u:=aG) (t:=aB) (by rw[ia];exact hi'),my hi',(h.sc.xx i hi').2];unfold kR;rw[hs _ (eJ (t:=.str) hi')]
def kx.bad{rd:Rd}(ok:iJ rd){root:aD}{ns:List aD}{os:List (D aB)}{bs:List Int}{ps:List Pt}(h:kx rd root ns os bs ps){rd':Rd}(hs:∀s∈ns,(rd' s).1=(rd s).1):mL rd' (cF rd ns bs ns.length)=0:=by
 refine vp fun j hj =>?_
 rw[ia]at hj;rw[my hj];simp only;rw[hs _ (eJ (t:=.str) hj)];exact(ke ok (h.sc.xx j hj).1).2
def kx.use{rd:Rd}(ok:iJ rd){root:aD}{ns:List aD}{os:List (D aB)}{bs:List Int}{ps:List Pt}(h:kx rd root ns os bs ps){rd':Rd}(hs:∀s∈ns,(rd' s).1=(rd s).1)
  (hf:gI rd' (root,cF rd ns bs ns.length,ps,())=true):ky rd' (root,cF rd ns bs ns.length,ps,())=(jd ns bs (lu (dB os) ps) os.length,0):=by
 rw[PT hf (h.bad ok hs)];simp only;rw[HO,HP (by rw[h.bl,h.sc.len]),h.aF hs,h.lay];rfl
def eD(p:D aG):Int:=if aP p.1 > 0 then aP p.1 else if p.2.1<1\/p.2.1 > 1000000\/p.2.2.1<0\/p.2.2.1 > 255\/p.2.2.1 % 16 > 0 then 1 else 0
def mz:List (D aG)->Int
 |[]=>0
 |p :: r=>if eD p=0 then mz r else eD p
def eM(n:Nat)(p:Pt):Int:=if p.1<0\/p.1>=(n:Int)\/p.2.1<0\/p.2.1 > 39\/ib p.2.2.1=false then 1 else 0
def l7(n:Nat):List Pt->Int
 |[]=>0
 |p :: r=>if eM n p=0 then l7 n r else eM n p
def rl(e:D aC):Prop:=e.2.1.length<1\/e.2.1.length > 6\/e.2.2.1.length > 36
instance(e:D aC):Decidable (rl e):=by unfold rl;infer_instance
def bC(e:D aC):Int:=
 if aP e.1 > 0 then aP e.1 else if rl e then 2 else if ¬mz e.2.1=0 then mz e.2.1 else l7 e.2.1.length e.2.2.1
def FV(p:D aG):0<=eD p:=by
 unfold eD;split
 ·omega
 ·split <;> decide
def FW(n:Nat)(p:Pt):0<=eM n p:=by unfold eM;split <;> decide
def uh:∀l:List (D aG),0<=mz l
 |[]=>az _
 |p :: r=>by
  unfold mz;split
  ·exact uh r
  ·exact FV p
def sU(n:Nat):∀l:List Pt,0<=l7 n l
 |[]=>az _
 |p :: r=>by
  unfold l7;split
  ·exact sU n r
  ·exact FW n p
def vS(e:D aC):0<=bC e:=by
 unfold bC;split
 ·omega
 ·split
  ·decide
  ·split
   ·exact uh _
   ·exact sU _ _
def Cm:∀{l:List (D aG)} {i:Nat},(∀j,j<i->eD (nth aG l j)=0)->i<l.length->¬eD (nth aG l i)=0->mz l=eD (nth aG l i)
 |[],i,_,h,_=>by simp at h
 |p :: r,0,_,_,h=>by unfold mz;rw[if_neg (show ¬eD p=0 from h)];rfl
 |p :: r,i+1,h,h1,h2=>by
  unfold mz;rw[if_pos (show eD p=0 from h 0 (by omega))];exact Cm (l:=r) (i:=i) (fun j hj=>h (j+1) (by omega)) (by simpa using h1) h2
def sb:∀{l:List (D aG)},(∀j,j<l.length->eD (nth aG l j)=0)->mz l=0
 |[],_=>rfl
 |p :: r,h=>by
  unfold mz;rw[if_pos (show eD p=0 from h 0 (by simp))];exact sb (l:=r) fun j hj=>h (j+1) (by simpa using hj)
def zL{n:Nat}:∀{l:List Pt} {i:Nat},(∀j,j<i->eM n (nth aR l j)=0)->i<l.length->¬eM n (nth aR l i)=0->l7 n l=eM n (nth aR l i)
 |[],i,_,h,_=>by simp at h
 |p :: r,0,_,_,h=>by unfold l7;rw[if_neg (show ¬eM n p=0 from h)];rfl
 |p :: r,i+1,h,h1,h2=>by
  unfold l7;rw[if_pos (show eM n p=0 from h 0 (by omega))];exact zL (l:=r) (i:=i) (fun j hj=>h (j+1) (by omega)) (by simpa using h1) h2
def vT{n:Nat}:∀{l:List Pt},(∀j,j<l.length->eM n (nth aR l j)=0)->l7 n l=0
 |[],_=>rfl
 |p :: r,h=>by
  unfold l7;rw[if_pos (show eM n p=0 from h 0 (by simp))];exact vT (l:=r) fun j hj=>h (j+1) (by simpa using hj)
def zM{e:D aC}(h:aP e.1 > 0):bC e=aP e.1:=by unfold bC;rw[if_pos h]
def qu{e:D aC}(h:aP e.1<=0)(h1:rl e):bC e=2:=by unfold bC;rw[if_neg (by omega),if_pos h1]
def jz{e:D aC}(h:aP e.1<=0)(h1:¬rl e){i:Nat}(hs:∀j,j<i->eD (nth aG e.2.1 j)=0)(hi:i<e.2.1.length){f:Int}(hf:eD (nth aG e.2.1 i)=f)(h0:f≠0):bC e=f:=by
 have:=Cm hs hi (by rw[hf];exact h0);unfold bC;rw[if_neg (by omega),if_neg h1,if_pos (by rw[this,hf];exact h0),this,hf]
def jA{e:D aC}(h:aP e.1<=0)(h1:¬rl e)(h2:∀j,j<e.2.1.length->eD (nth aG e.2.1 j)=0){i:Nat}(hs:∀j,j<i->eM e.2.1.length (nth aR e.2.2.1 j)=0)(hi:i<e.2.2.1.length)
  (hf:eM e.2.1.length (nth aR e.2.2.1 i)=1):bC e=1:=by
 unfold bC;rw[if_neg (by omega),if_neg h1,if_neg (not_not_intro (sb h2)),zL hs hi (by rw[hf];decide),hf]
def EN{e:D aC}(h:aP e.1<=0)(h1:¬rl e)(h2:∀j,j<e.2.1.length->eD (nth aG e.2.1 j)=0)(h3:∀j,j<e.2.2.1.length->eM e.2.1.length (nth aR e.2.2.1 j)=0):bC e=0:=by
 unfold bC;rw[if_neg (by omega),if_neg h1,if_neg (not_not_intro (sb h2)),vT h3]
section
variable{rd:Rd}{root:aD}{i:Nat}{ns:List aD}{os:List (D aB)}
def kZ.S9(ok:iJ rd)(h:kZ rd root i ns os)(hi:i<ns.length)(he:¬(rd (nth .str ns i)).2.2=0) :
  bJ rd root=([],[],(rd (nth .str ns i)).2.2):=by
 rw[h.bad hi (by rw[xv he];exact he),xv he]
def kZ.Vj(h:kZ rd root i ns os)(hi:i<ns.length)(he:(rd (nth .str ns i)).2.2=0)(ho:¬(cU (rd (nth .str ns i)).1).2=0) :
  bJ rd root=([],[],(cU (rd (nth .str ns i)).1).2):=by
 rw[h.bad hi (by rw[tz he];exact ho),tz he]
def Dq{s:aD}(he:(rd s).2.2=0)(ho:(cU (rd s).1).2=0):fK rd s=0:=by rw[tz he];exact ho
def kZ.Xs(h:kZ rd root i ns os):os.length+1<=1000000000:=by have:=h.len;have:=h.le;omega
def kZ.WB(h:kZ rd root i ns os)(ok:iJ rd){s:aD}(hf:fK rd s=0)(k:Nat):(gx ns (ah k (kR rd s).1)).length+1<=1000000000:=by
 obtain⟨r,h1,h2,_⟩:=p8 (ah k (kR rd s).1) ns;have:=(AQ ok hf).n4;have:=h.hi;have:=h.le;rw[h1,aw];rw[bh]at h2;omega
def Lg{l:List aD}{k:Nat}(h:k<l.length)(hn:(gx ns (l.take k)).any (fun x=>x == nth .str l k)=false):gx ns (l.take k)++[nth .str l k]=gx ns (l.take (k+1)):=by
 rw[EJ h,if_neg (by rw[hn];exact Bool.false_ne_true)]
def Lh{l:List aD}{k:Nat}(h:k<l.length)(hn:(gx ns (l.take k)).any (fun x=>x == nth .str l k)=true):gx ns (l.take k)=gx ns (l.take (k+1)):=by
 rw[EJ h,if_pos hn]
def Li{l:List aD}{k:Nat}(h:¬k<l.length):gx ns (l.take k)=gx ns l:=by rw[cg (by omega)]
end
def PU{rd:Rd}{root:aD}{ns:List aD}{os:List (D aB)}{bs:List Int}{ps:List Pt}{w:Ws}(h:bJ rd root=(ns,os,0))(hb:cN (bZ os,[])=(bs,.nil))(ha:iF (os,bs)=(ps,.nil))
  (hn:ns.length=os.length)(hl:bs.length=os.length)(hp:∀i,i<ps.length->ua (dB os) (nth aR ps i))(hw:lu (dB os) ps=w):jb rd root=(jd ns bs w os.length,0):=by
 have e:bB rd root=(ns,os,bs,ps,0):=by
  unfold bB;rw[h];simp only[hb,ha,aK.isNil];rfl
 unfold jb;rw[e,if_neg (by simp)];have hq:iX (dB os,ps)=(w,.nil):=by rw[yp hp,hw]
 simp only;rw[Dp hn hl (by rw[hq];rfl),hq];rfl
def AU:aD:=[119,111,114,100,32,53,10,98,97,115,101,32,48,32,51,10]
abbrev WC:D aB:=([],[5],[],[(0,1,3,[],false,())],())
def W9:cU AU=(WC,0):=by
 have i5:ab 5=[53]:=by rw[AJ (by decide) (by decide)];rfl
 have i0:ab 0=[48]:=by rw[AJ (by decide) (by decide)];rfl
 have i3:ab 3=[51]:=by rw[AJ (by decide) (by decide)];rfl
 refine Dm (by decide) (by decide) ?_;simp only[iI,jx,nT,nS,pA,vf,tx,iH,da,fl,fb,fk,bx,List.flatMap_nil,i5,i0,i3];decide
def PV{rd:Rd}{a t:aD}{n:Int}{o:D aB}(h:rd a=(t,n,0))(ho:cU t=(o,0))(hn:o.1=[]):bJ rd a=([a],[o],0):=by
 have fa:fK rd a=0:=by unfold fK;rw[h];show(if(0:Int)=0 then(cU t).2 else 0)=0;rw[ho];rfl
 have oa:kR rd a=o:=by unfold kR;rw[h];show(cU t).1=o;rw[ho]
 have n0:nth .str [a] 0=a:=rfl;unfold bJ;rw[pF,if_pos (by simp),n0,if_pos fa,oa,hn,HB,pF,if_neg (by simp)];rfl
def EO{s k:aD}(h:¬k=s):∀{es:List FE},cY cK (fQ cK es s) k=cY cK es k/\iV cK (fQ cK es s) k=iV cK es k
 |[]=>⟨rfl,rfl⟩
 |y :: es=>by
  obtain⟨h1,h2⟩:=EO h (es:=es);by_cases e:y.1=s
  ·have hk:¬y.1=k:=fun e'=>h (e'.symm.trans e)
   have hs:¬s=k:=fun e'=>h e'.symm
   have hd:fQ cK (y :: es) s=es:=if_pos e;rw[hd];constructor
   ·simp[cY,hk]
   ·show iV cK es k=if y.1=k then y.2.1 else iV cK es k;rw[if_neg hk]
  ·have hd:fQ cK (y :: es) s=y :: fQ cK es s:=if_neg e
   rw[hd];constructor
   ·simp only[cY]at h1 ⊢;simp[h1]
   ·show(if y.1=k then y.2.1 else iV cK (fQ cK es s) k)=if y.1=k then y.2.1 else iV cK es k;rw[h2]
def PW{x:cX}{s k:aD}(h:¬k=s):aO (fD x s).1 k=aO x k:=by
 cases hh:cY cK x.2.1.1 s with
 |false=>rw[mw hh]
 |true=>
  rw[lB hh];unfold aO;obtain⟨h1,h2⟩:=EO h (es:=x.2.1.1);simp only[h1,h2]
def dE.ok{x:cX}(h:dE x):iJ (aO x):=jy h.pre.1
def EP{rd:Rd}(ok:iJ rd){s:aD}(h:(bB rd s).2.2.2.2=0):kx rd s (bB rd s).1 (bB rd s).2.1 (bB rd s).2.2.1 (bB rd s).2.2.2.1:=by
 rcases sa ok s with⟨f,hf,e⟩|⟨ns,os,bs,ps,e,hr⟩
 ·rw[e]at h;exact absurd (show f=0 from h) (by omega)
 ·rw[e];exact hr
def PX{rd:Rd}(ok:iJ rd){s:aD}(h:(bB rd s).2.2.2.2=0){i:Nat}(hi:i<(bB rd s).1.length):(rd (nth .str (bB rd s).1 i)).2.2=0:=
 (ke ok ((EP ok h).sc.xx i hi).1).1
def ER{rd:Rd}(ok:iJ rd){s:aD}(h:(bB rd s).2.2.2.2=0):(bB rd s).2.2.1.length=(bB rd s).1.length/\(bB rd s).1.length<=6:=by
 have hr:=EP ok h;exact⟨by rw[hr.bl,hr.sc.len],hr.sc.le⟩
def zN{l:List (D aG)}{i:Nat}(h:i<l.length):fR (l.take i)++[(nth aG l i).1]=fR (l.take (i+1)):=by rw[lK (t:=aG) h];simp[fR]
def zO{l:List (D aG)}{i:Nat}(h:i<l.length):fS (l.take i)++[(nth aG l i).2.2.1]=fS (l.take (i+1)):=by rw[lK (t:=aG) h];simp[fS]
def Cn{rd:Rd}{l:List (D aG)}{i:Nat}(h:i<l.length):fN rd (l.take i)++[(cU (rd (nth aG l i).1).1).1]=fN rd (l.take (i+1)):=by rw[lK (t:=aG) h];simp[fN]
def PY{rd:Rd}{l:List (D aG)}(hl:l.length<=1000)(h:∀j,j<l.length->(cU (rd (nth aG l j).1).1).2=0) :
  (fN rd l).length<=1000/\∀i,i<(fN rd l).length->(nth aB (fN rd l) i).2.1.length<=1000:=by
 have e:(fN rd l).length=l.length:=by simp[fN]
 refine⟨by omega,fun i hi =>?_⟩;have hi':i<l.length:=by omega
 rw[show nth aB (fN rd l) i=(cU (rd (nth aG l i).1).1).1 from rC (t:=aB) (u:=aG) hi'];exact b5 (mZ (vj (h i hi'))).Uy (by decide)
def PZ{rd:Rd}{p:D aG}(h:(aI (rd p.1).2.2).isNil=false):je rd p=false:=by
 unfold je;rw[decide_eq_false (dX h)];rfl
def Nd{rd:Rd}{p:D aG}(h:¬(rd p.1).2.1=p.2.1):je rd p=false:=by
 unfold je;rw[decide_eq_false h,fm]
def Nf{rd:Rd}{p:D aG}(h:(aI (rd p.1).2.2).isNil=true)(h2:(rd p.1).2.1=p.2.1):je rd p=true:=by
 unfold je;rw[decide_eq_true (aQ.1 h),decide_eq_true h2];rfl
def Ta{rd:Rd}{e:D aC}(h:gI rd e=true)(hb:mL rd e.2.1=0) :
  ((jM (fR e.2.1) (fS e.2.1) (fN rd e.2.1) e.2.2.1).1,(jM (fR e.2.1) (fS e.2.1) (fN rd e.2.1) e.2.2.1).2,())=((ky rd e).1,aI (ky rd e).2,()):=by
 rw[PT h hb];simp only[rk (HF _ _ _ _)]
structure gD (x:cX):Prop where
 st:dE x
 P0:∀y∈x.2.1.1,aP y.1=0/\y.2.1.1.length<=1200/\1<=y.2.1.2.1
def gD.new:gD qt:=⟨.new,fun y hy=>by simp[qt]at hy⟩
def HQ{s:aD}{v:aD×Int×Unit}{c:Int}:∀{es:List FE} {y:FE},y∈eS cK es s v c->(y.1=s/\y.2.1=v)\/y∈es
 |[],y,h=>by simp[eS]at h;subst h;exact .inl ⟨rfl,rfl⟩
 |z :: r,y,h=>by
  unfold eS at h;split at h
  ·rcases ag.1 h with rfl|h
   ·exact .inl ⟨rfl,rfl⟩
   ·exact .inr (by simp[h])
  ·rcases ag.1 h with rfl|h
   ·exact .inr (by simp)
   ·rcases HQ h with h|h
    ·exact .inl h
    ·exact .inr (by simp[h])
def HR{x:cX}{s t:aD}(h:(cL x s t).2=0):aP s=0/\t.length<=1200/\¬x.1.1=1000000:=by
 unfold cL at h;split at h
 ·rename_i h1;exact absurd h h1
 ·rename_i h1
  split at h
  ·simp at h
  ·rename_i h2
   split at h
   ·simp at h
   ·rename_i h3
    exact⟨by simpa using h1,by omega,fun e=>h3 (.inr e)⟩
def dE.pos{x:cX}(h:dE x):0<=x.1.1:=h.pre.2.1
def gD.write{x:cX}(h:gD x)(s t:aD):gD (cL x s t).1:=by
 refine⟨(h.st.write s t).1,?_⟩;rcases mj x s t with⟨e,_⟩|⟨e,e2⟩
 ·rw[e];exact h.P0
 ·rw[e]
  intro y hy;obtain⟨k1,k2,_⟩:=HR e2;rcases HQ hy with⟨h1,h2⟩|hy
  ·rw[h1,h2];exact⟨k1,k2,by have:=h.st.pos;show(1:Int)<=x.1.1+1;omega⟩
  ·exact h.P0 y hy
def gD.remove{x:cX}(h:gD x)(s:aD):gD (fD x s).1:=by
 refine⟨(h.st.remove s).1,?_⟩;cases c:cY cK x.2.1.1 s with
 |false=>rw[mw c];exact h.P0
 |true=>rw[lB c];exact fun y hy=>h.P0 y (p4.subset hy)
def gD.ok{x:cX}(h:gD x):iJ (aO x):=h.st.ok
def gD.read{x:cX}(h:gD x){s:aD}(hn:(aO x s).2.2=0):aP s=0/\(aO x s).1.length<=1200/\1<=(aO x s).2.1/\(aO x s).2.1<=x.1.1:=by
 refine⟨?_,?_,?_,MK h.st (aQ.2 hn)⟩
 all_goals
  cases c:cY cK x.2.1.1 s with
  |false=>rw[lL c]at hn;simp at hn
  |true=>
   obtain⟨r,hr⟩:=h.st.fV;obtain⟨y,hy,e⟩:=l5.1 c;have hy':=h.P0 y hy
   first
    |(rw[py c,vb hr.names y hy e];first|exact hy'.2.1|exact hy'.2.2)
    |(rw[<-e];exact hy'.1)
def P1{rd:Rd}(ok:iJ rd){root:aD}(h:(aI (dZ rd root).2).isNil=true) :
  ∃ns os bs ps,bB rd root=(ns,os,bs,ps,0)/\kx rd root ns os bs ps/\dZ rd root=((root,cF rd ns bs ns.length,ps,()),0):=by
 rcases Nc ok root with⟨f,hf,_,e⟩|h'
 ·rw[e]at h;exact absurd (aQ.1 h) (by show ¬f=0;omega)
 ·exact h'
def Ng{p:D aG}(h:aP p.1 > 0):eD p=aP p.1:=by unfold eD;rw[if_pos h]
def qM{p:D aG}(h:aP p.1<=0)(h2:p.2.1<(1:Int)\/p.2.1 > (1000000:Int)\/p.2.2.1<(0:Int)\/p.2.2.1 > (255:Int)\/p.2.2.1 % (16:Int) > 0):eD p=1:=by
 unfold eD;rw[if_neg (by omega),if_pos h2]
def HS{p:D aG}(h:aP p.1<=0)(h1:(1:Int)<=p.2.1)(h2:p.2.1<=(1000000:Int))(h3:(0:Int)<=p.2.2.1)(h4:p.2.2.1<=(255:Int))(h5:p.2.2.1 % (16:Int)=0):eD p=0:=by
 unfold eD;rw[if_neg (by omega),if_neg];rintro(e|e|e|e|e)
 ·exact absurd e (ao.2 h1)
 ·exact absurd e (ao.2 h2)
 ·exact absurd e (ao.2 h3)
 ·exact absurd e (ao.2 h4)
 ·exact absurd (show(0:Int)<0 from h5▸e) (by decide)
def HT{b x:Int}(h:0<=b)(e:x=Int.tmod b 16):x=b % 16:=by rw[e,ey h]
def oY{n:Nat}{p:Pt}(h:p.1<(0:Int)\/p.1>=(n:Int)\/p.2.1<(0:Int)\/p.2.1 > (39:Int)\/p.2.2.1<(-2147483648:Int)\/p.2.2.1 > (2147483647:Int)):eM n p=1:=by
 unfold eM;rw[if_pos];rcases h with h|h|h|h|h|h
 ·exact .inl h
 ·exact .inr (.inl h)
 ·exact .inr (.inr (.inl h))
 ·exact .inr (.inr (.inr (.inl h)))
 ·refine .inr (.inr (.inr (.inr ?_)));unfold ib;rw[decide_eq_false (cp.2 h)];rfl
 ·refine .inr (.inr (.inr (.inr ?_)));unfold ib;rw[decide_eq_false (cp.2 h),fm]
def Co{n:Nat}{p:Pt}(h1:(0:Int)<=p.1)(h2:p.1<(n:Int))(h3:(0:Int)<=p.2.1)(h4:p.2.1<=(39:Int))(h5:(-2147483648:Int)<=p.2.2.1)(h6:p.2.2.1<=(2147483647:Int)):eM n p=0:=by
 unfold eM;rw[if_neg];rintro(e|e|e|e|e)
 ·exact absurd e (ao.2 h1)
 ·exact absurd h2 (ao.2 e)
 ·exact absurd e (ao.2 h3)
 ·exact absurd e (ao.2 h4)
 ·unfold ib at e;rw[decide_eq_true h5,decide_eq_true h6]at e;cases e
def iK{e:D aC}(h1:(1:Int)<=(e.2.1.length:Int))(h2:(e.2.1.length:Int)<=6)(h3:(e.2.2.1.length:Int)<=36):¬rl e:=by
 rintro(k|k|k)
 ·have k:e.2.1.length<1:=k;omega
 ·have k:e.2.1.length > 6:=k;omega
 ·have k:e.2.2.1.length > 36:=k;omega
def nh(p:D aG):aD:=[32]++p.1++[32]++ab p.2.1++[32]++ab p.2.2.1
def ni(p:D aR):aD:=[32]++ab p.1++[32]++ab p.2.1++[32]++ab p.2.2.1
def vq(e:D aC):aD:=e.1++[32]++ab (e.2.1.length:Int)++[32]++ab (e.2.2.1.length:Int)
def jH(e:D aC)(i:Nat):aD:=vq e++(e.2.1.take i).flatMap nh
def js(e:D aC)(i:Nat):aD:=jH e e.2.1.length++(e.2.2.1.take i).flatMap ni
def rm(e:D aC):aD:=js e e.2.2.1.length
def fO(e:D aC):aD:=rm e++[10]
def dJ(e:D aC):aD×aK:=if bC e≠0 then([],aI (bC e))else(fO e,.nil)
def Nh(e:D aC):jH e 0=vq e:=by unfold jH;simp
def Ni(e:D aC):js e 0=jH e e.2.1.length:=by unfold js;simp
def Nj{e:D aC}{i:Nat}(h:i<e.2.1.length):jH e (i+1)=jH e i++nh (nth aG e.2.1 i):=by
 unfold jH;rw[ig (t:=aG) h];simp
def Nk{e:D aC}{i:Nat}(h:i<e.2.2.1.length):js e (i+1)=js e i++ni (nth aR e.2.2.1 i):=by
 unfold js;rw[ig (t:=aR) h];simp
structure la (e:D aC):Prop where
 nm:Nm e.1
 p1:1<=e.2.1.length
 p6:e.2.1.length<=6
 Cp:e.2.2.1.length<=36
 parts:∀i,i<e.2.1.length->Nm (nth aG e.2.1 i).1/\il 1 1000000 (nth aG e.2.1 i).2.1/\il 0 255 (nth aG e.2.1 i).2.2.1
 HU:∀i,i<e.2.2.1.length->il 0 5 (nth aR e.2.2.1 i).1/\il 0 39 (nth aR e.2.2.1 i).2.1/\il (-2147483648) 2147483647 (nth aR e.2.2.1 i).2.2.1
def Cq{n:Nat}{p:Pt}(h:¬eM n p=0):eM n p=1:=by
 unfold eM at h ⊢;split
 ·rfl
 ·rename_i hh;rw[if_neg hh]at h;exact absurd rfl h
def lF{e:D aC}(h:bC e=0):la e:=by
 have h0:aP e.1=0:=by
  apply aq;intro hn;have:=eU e.1;rw[zM (by omega)]at h;exact hn h
 have h1:¬rl e:=by
  intro hm;rw[qu (by omega) hm]at h;cases h
 have h2:∀i,(∀j,j<i->j<e.2.1.length->eD (nth aG e.2.1 j)=0)/\(i<e.2.1.length->eD (nth aG e.2.1 i)=0):=by
  intro i;induction i with
  |zero=>
   refine⟨fun j hj=>by omega,fun hi =>?_⟩;apply aq;intro hn;rw[jz (i:=0) (by omega) h1 (fun j hj=>by omega) hi rfl hn]at h;exact hn h
  |succ i ih=>
   have hs:∀j,j<i+1->j<e.2.1.length->eD (nth aG e.2.1 j)=0:=fun j hj hl=>by
    rcases bg j i with hh|hh
    ·exact ih.1 j hh hl
    ·obtain rfl:j=i:=by omega
     exact ih.2 hl
   refine⟨hs,fun hi =>?_⟩;apply aq;intro hn;rw[jz (i:=i+1) (by omega) h1 (fun j hj=>hs j hj (by omega)) hi rfl hn]at h;exact hn h
 have h2':∀i,i<e.2.1.length->eD (nth aG e.2.1 i)=0:=fun i=>(h2 i).2
 have h3:∀i,(∀j,j<i->j<e.2.2.1.length->eM e.2.1.length (nth aR e.2.2.1 j)=0)/\(i<e.2.2.1.length->eM e.2.1.length (nth aR e.2.2.1 i)=0):=by
  intro i;induction i with
  |zero=>
   refine⟨fun j hj=>by omega,fun hi =>?_⟩;apply aq;intro hn;rw[jA (i:=0) (by omega) h1 h2' (fun j hj=>by omega) hi (Cq hn)]at h;cases h
  |succ i ih=>
   have hs:∀j,j<i+1->j<e.2.2.1.length->eM e.2.1.length (nth aR e.2.2.1 j)=0:=fun j hj hl=>by
    rcases bg j i with hh|hh
    ·exact ih.1 j hh hl
    ·obtain rfl:j=i:=by omega
     exact ih.2 hl
   refine⟨hs,fun hi =>?_⟩;apply aq;intro hn;rw[jA (i:=i+1) (by omega) h1 h2' (fun j hj=>hs j hj (by omega)) hi (Cq hn)]at h;cases h
 have p1:1<=e.2.1.length:=bc.1 fun k=>h1 (.inl k)
 have p6:e.2.1.length<=6:=bc.1 fun k=>h1 (.inr (.inl k))
 refine⟨Cb h0,p1,p6,bc.1 fun k=>h1 (.inr (.inr k)),fun i hi =>?_,fun i hi =>?_⟩
 ·have k:=h2' i hi
  unfold eD at k;split at k
  ·rename_i hn;omega
  ·rename_i hn
   split at k
   ·cases k
   ·rename_i hb
    have:=eU (nth aG e.2.1 i).1;exact⟨Cb (by omega),⟨ao.1 fun k=>hb (.inl k),ao.1 fun k=>hb (.inr (.inl k))⟩,⟨ao.1 fun k=>hb (.inr (.inr (.inl k))),ao.1 fun k=>hb (.inr (.inr (.inr (.inl k))))⟩⟩
 ·have k:=(h3 i).2 hi
  unfold eM at k;split at k
  ·cases k
  ·rename_i hb
   have hw:ib (nth aR e.2.2.1 i).2.2.1=true:=by
    apply Bool.not_eq_false _ |>.mp
    intro k;exact hb (.inr (.inr (.inr (.inr k))))
   unfold ib at hw;simp only[af,decide_eq_true_eq]at hw;have hl:(nth aR e.2.2.1 i).1<(e.2.1.length:Int):=cp.1 fun k=>hb (.inr (.inl k))
   exact⟨⟨ao.1 fun k=>hb (.inl k),by omega⟩,⟨ao.1 fun k=>hb (.inr (.inr (.inl k))),ao.1 fun k=>hb (.inr (.inr (.inr (.inl k))))⟩,hw⟩
def Nl{p:D aG}(h1:Nm p.1)(h2:il 1 1000000 p.2.1)(h3:il 0 255 p.2.2.1):(nh p).length<=64:=by
 have a:=h1.2.1;have b:=dI h2 (by decide) (by decide);have c:=dI h3 (by decide) (by decide);simp[nh];omega
def Nn{p:D aR}(h1:il 0 5 p.1)(h2:il 0 39 p.2.1)(h3:il (-2147483648) 2147483647 p.2.2.1):(ni p).length<=64:=by
 have a:=dI h1 (by decide) (by decide);have b:=dI h2 (by decide) (by decide);have c:=dI h3 (by decide) (by decide);simp[ni];omega
def la.head{e:D aC}(h:la e):(vq e).length<=64:=by
 have a:=h.nm.2.1;have b:=dI (n:=(e.2.1.length:Int)) (a:=0) (b:=6) ⟨by omega,by have:=h.p6;omega⟩ (by decide) (by decide);have c:=dI (n:=(e.2.2.1.length:Int)) (a:=0) (b:=36) ⟨by omega,by have:=h.Cp;omega⟩ (by decide) (by decide);simp[vq];omega
def la.Hv{e:D aC}(h:la e)(i:Nat):(jH e i).length<=448:=by
 have a:=h.head;have b:=oN (f:=nh) (l:=e.2.1.take i) fun x hx=>by
  obtain⟨j,hj,rfl⟩:=hH (t:=aG) (b8 hx);obtain⟨k1,k2,k3⟩:=h.parts j hj;exact Nl k1 k2 k3
 have c:=h.p6;have d:(e.2.1.take i).length<=e.2.1.length:=by simp;omega
 unfold jH;rw[aw];omega
def la.AK{e:D aC}(h:la e)(i:Nat):(js e i).length<=2752:=by
 have a:=h.Hv e.2.1.length;have b:=oN (f:=ni) (l:=e.2.2.1.take i) fun x hx=>by
  obtain⟨j,hj,rfl⟩:=hH (t:=aR) (b8 hx);obtain⟨k1,k2,k3⟩:=h.HU j hj;exact Nn k1 k2 k3
 have c:=h.Cp;have d:(e.2.2.1.take i).length<=e.2.2.1.length:=by simp;omega
 unfold js;rw[aw];omega
def la.lens{e:D aC}(h:la e):e.1.length<=8/\(ab (e.2.1.length:Int)).length<=19/\(ab (e.2.2.1.length:Int)).length<=19:=
 ⟨h.nm.2.1,dI (a:=0) (b:=6) ⟨by omega,by have:=h.p6;omega⟩ (by decide) (by decide),dI (a:=0) (b:=36) ⟨by omega,by have:=h.Cp;omega⟩ (by decide) (by decide)⟩
def la.Xa{e:D aC}(h:la e){i:Nat}(hi:i<e.2.1.length):(nth aG e.2.1 i).1.length<=8/\(ab (nth aG e.2.1 i).2.1).length<=19/\(ab (nth aG e.2.1 i).2.2.1).length<=19/\(jH e i).length<=448:=by
 obtain⟨k1,k2,k3⟩:=h.parts i hi;exact⟨k1.2.1,dI k2 (by decide) (by decide),dI k3 (by decide) (by decide),h.Hv i⟩
def la.Xb{e:D aC}(h:la e){i:Nat}(hi:i<e.2.2.1.length):(ab (nth aR e.2.2.1 i).1).length<=19/\(ab (nth aR e.2.2.1 i).2.1).length<=19/\(ab (nth aR e.2.2.1 i).2.2.1).length<=19/\(js e i).length<=2752:=by
 obtain⟨k1,k2,k3⟩:=h.HU i hi;exact⟨dI k1 (by decide) (by decide),dI k2 (by decide) (by decide),dI k3 (by decide) (by decide),h.AK i⟩
def No{e:D aC}{i:Nat}(h:i<e.2.1.length):jH e i++nh (nth aG e.2.1 i)=jH e (i+1):=(Nj h).symm
def Np{e:D aC}{i:Nat}(h:i<e.2.2.1.length):js e i++ni (nth aR e.2.2.1 i)=js e (i+1):=(Nk h).symm
def Nq{e:D aC}(h:bC e≠0):([],aI (bC e))=dJ e:=by unfold dJ;rw[if_pos h]
def P2{e:D aC}(h:bC e=0){i:Nat}(hi:i=e.2.2.1.length):(js e i++[10],aK.nil)=dJ e:=by unfold dJ;rw[if_neg (not_not_intro h),hi];rfl
def vU(L:List aD):aD:=L.flatMap fun x=>32 :: x
def Dr(L M:List aD):vU (L++M)=vU L++vU M:=by simp[vU]
def HV:∀(a:aD) (L:List aD),nI 32 (a :: L)=a++vU L
 |a,[]=>by simp[nI,vU]
 |a,b :: r=>by rw[nI,HV b r];simp[vU]
def ui(p:D aG):List aD:=[p.1,ab p.2.1,ab p.2.2.1]
def uj(p:D aR):List aD:=[ab p.1,ab p.2.1,ab p.2.2.1]
def kS(e:D aC):List aD:=e.1 :: ([ab (e.2.1.length:Int),ab (e.2.2.1.length:Int)]++(e.2.1.flatMap ui++e.2.2.1.flatMap uj))
def AV{α:Type}{f:α->List aD}{g:α->aD}(h:∀x,vU (f x)=g x):∀l:List α,vU (l.flatMap f)=l.flatMap g
 |[]=>rfl
 |x :: l=>by rw[bx,Dr,h,AV h l,bx]
def zP(e:D aC):rm e=nI 32 (kS e):=by
 unfold kS;rw[HV,Dr,Dr,AV (g:=nh) (by intro x;simp[ui,nh,vU]),AV (g:=ni) (by intro x;simp[uj,ni,vU])];unfold rm js jH vq;simp[vU]
def zQ{e:D aC}(h:la e):∀y∈kS e,(32:UInt8)∉y/\(10:UInt8)∉y:=by
 intro y hy;unfold kS at hy;rcases ag.1 hy with rfl|hy
 ·exact nK h.nm
 ·rcases au.1 hy with hy|hy
  ·simp at hy
   rcases hy with rfl|rfl <;> exact⟨jL _,nf _⟩
  ·rcases au.1 hy with hy|hy
   ·obtain⟨p,hp,hy⟩:=fo.1 hy
    obtain⟨j,hj,rfl⟩:=hH (t:=aG) hp;simp[ui]at hy;rcases hy with rfl|rfl|rfl
    ·exact nK (h.parts j hj).1
    ·exact⟨jL _,nf _⟩
    ·exact⟨jL _,nf _⟩
   ·obtain⟨p,hp,hy⟩:=fo.1 hy
    simp[uj]at hy;rcases hy with rfl|rfl|rfl <;> exact⟨jL _,nf _⟩
def Cr{c:UInt8}(hc:c≠32):∀{L:List aD},(∀y∈L,c∉y)->c∉nI 32 L
 |[],_=>by simp[nI]
 |[x],h=>h x (by simp)
 |x :: y :: r,h=>by
  rw[nI];intro hm;rcases au.1 hm with hm|hm
  ·exact h x (by simp) hm
  ·rcases ag.1 hm with e|hm
   ·exact hc e
   ·exact Cr hc (fun z hz=>h z (by simp[hz])) hm
def Nr{e:D aC}(h:la e):(10:UInt8)∉rm e:=by
 rw[zP];exact Cr (by decide) fun y hy=>(zQ h y hy).2
def J1{e:D aC}(h:la e):parts 32 (rm e)=kS e:=by
 rw[zP];exact tw (by unfold kS;simp) fun y hy=>(zQ h y hy).1
def tA{e:D aC}(h:la e):parts 32 (ae (fO e) [10])=kS e:=by
 unfold fO;rw[ue,J1 h]
theorem xC{α:Type}{f:α->List aD}(hf:∀x,(f x).length=3):∀l:List α,(l.flatMap f).length=3*l.length
 |[]=>rfl
 |x :: l=>by rw[bx,aw,hf,xC hf l,cj];omega
theorem xD{α:Type}[Inhabited α]{f:α->List aD}(hf:∀x,(f x).length=3):∀(l:List α) (i k:Nat),i<l.length->k<3->nth .str (l.flatMap f) (3*i+k)=nth .str (f (l.getD i default)) k
 |[],i,k,h,_=>by simp at h
 |x :: l,0,k,_,hk=>by
  rw[bx,sR (t:=.str) (by rw[hf];omega)];simp
 |x :: l,i+1,k,h,hk=>by
  rw[bx,pr,if_neg (by rw[hf];omega),hf,show 3*(i+1)+k-3=3*i+k by omega,xD hf l i k (by simpa using h) hk];simp
structure mn (w:List aD) (e:D aC):Prop where
 len:w.length=3+3*(e.2.1.length+e.2.2.1.length)
 root:nth .str w 0=e.1
 a:nth .str w 1=ab (e.2.1.length:Int)
 b:nth .str w 2=ab (e.2.2.1.length:Int)
 p0:∀i,i<e.2.1.length->nth .str w (3+3*i)=(nth aG e.2.1 i).1
 p1:∀i,i<e.2.1.length->nth .str w (4+3*i)=ab (nth aG e.2.1 i).2.1
 p2:∀i,i<e.2.1.length->nth .str w (5+3*i)=ab (nth aG e.2.1 i).2.2.1
 q0:∀i,i<e.2.2.1.length->nth .str w (3+3*(e.2.1.length+i))=ab (nth aR e.2.2.1 i).1
 q1:∀i,i<e.2.2.1.length->nth .str w (4+3*(e.2.1.length+i))=ab (nth aR e.2.2.1 i).2.1
 q2:∀i,i<e.2.2.1.length->nth .str w (5+3*(e.2.1.length+i))=ab (nth aR e.2.2.1 i).2.2.1
def zR{t:Ty}{l:List (D t)}{i:Nat}(d:D t)(h:i<l.length):nth t l i=l.getD i d:=by
 unfold nth;rw[List.getD_eq_getElem?_getD,List.getD_eq_getElem?_getD,List.getElem?_eq_getElem h];rfl
def HW(e:D aC):mn (kS e) e:=by
 have hs:∀x,(ui x).length=3:=fun _=>rfl
 have hp:∀x,(uj x).length=3:=fun _=>rfl
 have ls:=xC hs e.2.1;have lp:=xC hp e.2.2.1;have at3:∀k,nth .str (kS e) (3+k)=nth .str (e.2.1.flatMap ui++e.2.2.1.flatMap uj) k:=fun k=>by
  rw[show 3+k=k+1+1+1 by omega];rfl
 letI:Inhabited (D aG):=⟨bY aG⟩
 letI:Inhabited (D aR):=⟨bY aR⟩
 have hP:∀i k,i<e.2.1.length->k<3->nth .str (kS e) (3+(3*i+k))=nth .str (ui (nth aG e.2.1 i)) k:=fun i k hi hk=>by
  rw[at3,sR (t:=.str) (by omega),xD hs _ i k hi hk,zR default hi]
 have hQ:∀i k,i<e.2.2.1.length->k<3->nth .str (kS e) (3+(3*(e.2.1.length+i)+k))=nth .str (uj (nth aR e.2.2.1 i)) k:=fun i k hi hk=>by
  rw[at3,pr,if_neg (by omega),ls,show 3*(e.2.1.length+i)+k-3*e.2.1.length=3*i+k by omega,xD hp _ i k hi hk,zR default hi]
 refine⟨?_,rfl,rfl,rfl,fun i hi =>?_,fun i hi =>?_,fun i hi =>?_,fun i hi =>?_,fun i hi =>?_,fun i hi =>?_⟩
 ·unfold kS;simp only[cj,aw,fl,ls,lp];omega
 ·exact hP i 0 hi (by omega)
 ·rw[show 4+3*i=3+(3*i+1) by omega];exact hP i 1 hi (by omega)
 ·rw[show 5+3*i=3+(3*i+2) by omega];exact hP i 2 hi (by omega)
 ·exact hQ i 0 hi (by omega)
 ·rw[show 4+3*(e.2.1.length+i)=3+(3*(e.2.1.length+i)+1) by omega];exact hQ i 1 hi (by omega)
 ·rw[show 5+3*(e.2.1.length+i)=3+(3*(e.2.1.length+i)+2) by omega];exact hQ i 2 hi (by omega)
def partAt(A:aD->Int)(w:List aD)(i:Nat):D aG:=(nth .str w (3+3*i),A (nth .str w (4+3*i)),A (nth .str w (5+3*i)),())
def uk(A:aD->Int)(w:List aD)(i:Nat):D aR:=(A (nth .str w (3+3*i)),A (nth .str w (4+3*i)),A (nth .str w (5+3*i)),())
def dU(A:aD->Int)(w:List aD)(n:Nat):List (D aG):=(ba n).map (partAt A w)
def cT(A:aD->Int)(w:List aD)(a n:Nat):List (D aR):=(ba n).map fun i=>uk A w (a+i)
def zS(A:aD->Int)(w:List aD)(n:Nat):(dU A w n).length=n:=by simp[dU]
def vV(A:aD->Int)(w:List aD)(a n:Nat):(cT A w a n).length=n:=by simp[cT]
def J2{A:aD->Int}{w:List aD}{n i:Nat}(h:i<n):nth aG (dU A w n) i=partAt A w i:=by
 unfold nth dU;rw[List.getD_eq_getElem?_getD,List.getElem?_map,List.getElem?_range h];rfl
def FX{A:aD->Int}{w:List aD}{a n i:Nat}(h:i<n):nth aR (cT A w a n) i=uk A w (a+i):=by
 unfold nth cT;rw[List.getD_eq_getElem?_getD,List.getElem?_map,List.getElem?_range h];rfl
def HX(A:aD->Int)(w:List aD)(n:Nat):dU A w (n+1)=dU A w n++[partAt A w n]:=by simp[dU,cq]
def Ds(A:aD->Int)(w:List aD)(a n:Nat):cT A w a (n+1)=cT A w a n++[uk A w (a+n)]:=by simp[cT,cq]
def UA(A:aD->Int):Prop:=∀n:Int,il (-2147483648) 2147483647 n->A (ab n)=n
def gW{a b n:Int}(h:il a b n)(ha : -2147483648<=a)(hb:b<=2147483647):il (-2147483648) 2147483647 n:=⟨b7 ha h.1,b7 h.2 hb⟩
def la.na{e:D aC}(h:la e):il 0 6 (e.2.1.length:Int):=⟨by omega,by have:=h.p6;omega⟩
def la.nb{e:D aC}(h:la e):il 0 36 (e.2.2.1.length:Int):=⟨by omega,by have:=h.Cp;omega⟩
def mn.eq{A:aD->Int}(hA:UA A){w:List aD}{e:D aC}(r:mn w e)(h:la e):e=(nth .str w 0,dU A w e.2.1.length,cT A w e.2.1.length e.2.2.1.length,()):=by
 obtain⟨s,p,q,_⟩:=e;have e1:p=dU A w p.length:=lE (t:=aG) (by rw[zS]) fun i hi=>by
  rw[J2 hi];obtain⟨k1,k2,k3⟩:=h.parts i hi;unfold partAt;rw[r.p0 i hi,r.p1 i hi,r.p2 i hi,hA _ (gW k2 (by decide) (by decide)),hA _ (gW k3 (by decide) (by decide))]
 have e2:q=cT A w p.length q.length:=lE (t:=aR) (by rw[vV]) fun i hi=>by
  rw[FX hi];obtain⟨k1,k2,k3⟩:=h.HU i hi;unfold uk;rw[r.q0 i hi,r.q1 i hi,r.q2 i hi,hA _ (gW k1 (by decide) (by decide)),hA _ (gW k2 (by decide) (by decide)),hA _ k3]
 have e0:nth .str w 0=s:=r.root;rw[e0];exact congrArg (fun z=>(s,z)) (show(p,q,())=(dU A w p.length,cT A w p.length q.length,()) by rw[<-e1,<-e2])
def dD(s:aD):Int:=(dV s).1
def iM:UA dD:=fun n h=>by
 have:=rB h (by decide) (by decide);exact ng this
def P3{e e':D aC}(h:bC e=0)(h':bC e'=0)(ht:fO e=fO e'):e=e':=by
 have k:=lF h;have k':=lF h';have hw:kS e=kS e':=by rw[<-tA k,<-tA k',ht]
 have r:=HW e;have r':=HW e';rw[hw]at r;have ha:(e.2.1.length:Int)=(e'.2.1.length:Int):=by
  rw[<-iM _ (gW k.na (by decide) (by decide)),<-iM _ (gW k'.na (by decide) (by decide)),<-r.a,<-r'.a]
 have hb:(e.2.2.1.length:Int)=(e'.2.2.1.length:Int):=by
  rw[<-iM _ (gW k.nb (by decide) (by decide)),<-iM _ (gW k'.nb (by decide) (by decide)),<-r.b,<-r'.b]
 refine(r.eq iM k).trans (Eq.trans ?_ (r'.eq iM k').symm);rw[dd.1 ha,dd.1 hb]
open Classical in
def oP(s:aD):D aC×Int:=if h:∃e:D aC,bC e=0/\fO e=s then(b9 h,0)else(bY aC,4)
def Lj{s:aD}{e:D aC}(hf:bC e=0)(ht:fO e=s):oP s=(e,0):=by
 have hx:∃e:D aC,bC e=0/\fO e=s:=⟨e,hf,ht⟩
 have hc:=cz hx;unfold oP;rw[dif_pos hx,P3 hc.1 hf (hc.2.trans ht.symm)]
def Tb{s:aD}(hn:∀e:D aC,bC e=0->fO e=s->False):oP s=(bY aC,4):=by
 unfold oP;rw[dif_neg fun⟨e,h1,h2⟩=>hn e h1 h2]
def gU(s:aD):D aC×aK:=((oP s).1,aI (oP s).2)
def pH{s:aD}(hn:∀e:D aC,bC e=0->fO e=s->False):(bY aC,aK.no 4)=gU s:=by unfold gU;rw[Tb hn];rfl
def P4{s:aD}{e:D aC}(h:(dJ e).2.isNil=true)(ht:(dJ e).1=s):(e,aK.nil)=gU s:=by
 have hf:bC e=0:=by
  apply aq;intro hf;unfold dJ at h;rw[if_pos hf]at h;exact hf (aQ.1 h)
 unfold dJ at ht;rw[if_neg (not_not_intro hf)]at ht;unfold gU;rw[Lj hf ht];rfl
def l8(l:List aD):List Int:=l.map dD
def vr(l:List aD):Bool:=l.all fun s=>(cS s).isSome
def bS(l:List aD):List Int×Bool:=if vr l=true then(l8 l,true)else([],false)
def Td{l:List aD}{i:Nat}(hi:i<l.length)(h:cS (nth .str l i)=none):vr l=false:=by
 unfold vr;rw[c6];exact⟨nth .str l i,eJ (t:=.str) hi,by rw[h];decide⟩
def zT{l:List aD}{i:Nat}(hi:i<l.length)(h:(cS (nth .str l i)).isNone=true):([],false)=bS l:=by
 unfold bS;rw[Td hi (Option.isNone_iff_eq_none.1 h)];rfl
def vt{l:List aD}(h:∀j,j<l.length->(cS (nth .str l j)).isNone=false):vr l=true:=by
 unfold vr;rw[ca];intro s hs;obtain⟨j,hj,rfl⟩:=hH (t:=.str) hs;have:=h j hj;cases hh:cS (nth .str l j)with
 |none=>rw[hh]at this;cases this
 |some n=>rfl
def Ns{l:List aD}{i:Nat}(hi:¬i<l.length)(h:∀j,j<i->j<l.length->(cS (nth .str l j)).isNone=false):(l8 (l.take i),true)=bS l:=by
 unfold bS;rw[vt fun j hj=>h j (by omega) hj,if_pos rfl,cg (by omega)]
def Cs{l:List aD}{i:Nat}(h:i<l.length):l8 (l.take (i+1))=l8 (l.take i)++[(dV (nth .str l i)).1]:=by
 rw[ig (t:=.str) h];simp[l8,dD]
def nj{l:List aD}:(bS l).2=vr l:=by
 unfold bS;split
 ·rename_i h;rw[h]
 ·rename_i h;rw[fg _ |>.mp h]
def zU{l:List aD}(h:(bS l).2=true){i:Nat}(hi:i<l.length):nth (.int .i64) (bS l).1 i=dD (nth .str l i)/\(cS (nth .str l i)).isNone=false:=by
 have hk:=h;rw[nj]at hk;constructor
 ·unfold bS;rw[if_pos hk]
  unfold nth l8;rw[List.getD_eq_getElem?_getD,List.getD_eq_getElem?_getD,List.getElem?_map,List.getElem?_eq_getElem hi];rfl
 ·unfold vr at hk
  rw[ca]at hk;have:=hk _ (eJ (t:=.str) hi);cases hh:cS (nth .str l i)with
  |none=>rw[hh]at this;cases this
  |some n=>rfl
def J3{l:List aD}(h:(bS l).2=true):(bS l).1.length=l.length:=by
 rw[nj]at h;unfold bS;rw[if_pos h];simp[l8]
structure p9 (w:List aD):Prop where
 ka:(cS (nth .str w 1)).isNone=false
 kb:(cS (nth .str w 2)).isNone=false
 a0:(0:Int)<=dD (nth .str w 1)
 a6:dD (nth .str w 1)<=(6:Int)
 b0:(0:Int)<=dD (nth .str w 2)
 fE:dD (nth .str w 2)<=(36:Int)
 len:(w.length:Int)=3+3*(dD (nth .str w 1)+dD (nth .str w 2))
def Ct{t:Ty}{l:List (D t)}{i j k:Nat}(h:i+k<j):nth t (ai i (ah j l)) k=nth t l (i+k):=by
 unfold nth;rw[List.getD_eq_getElem?_getD,List.getD_eq_getElem?_getD,List.getElem?_drop,List.getElem?_take,if_pos h]
def HY{α:Type}{l:List α}{i j:Nat}(h:j<=l.length):(ai i (ah j l)).length=j-i:=by simp;omega
def P5(s:aD)(c:UInt8)(h:s.length<=100000):(parts c (ae s [10])).length<=100001:=by
 have a:=sO c (ae s [10]);have b:=yw s [10];omega
def qN{l:List aD}{n:Nat}(h:∀y∈l,y.length<=n)(i:Nat):(nth .str l i).length<=n:=by
 by_cases hi:i<l.length
 ·exact h _ (eJ (t:=.str) hi)
 ·unfold nth;rw[List.getD_eq_getElem?_getD,List.getElem?_eq_none (by omega)];exact ar _
def tB{s:aD}{c:UInt8}(h:s.length<=100000):∀y∈parts c (ae s [10]),y.length<=1000000:=fun y hy=>by
 have a:=oM c _ y hy;have b:=yw s [10];omega
def HZ{l:List aD}{n:Nat}(h:∀y∈l,y.length<=n)(i j:Nat):∀y∈ai i (ah j l),y.length<=n:=fun y hy=>h y (b8 (List.mem_of_mem_drop hy))
def Vk{s:aD}{c:UInt8}(h:s.length<=100000)(i j:Nat):(ai i (ah j (parts c (ae s [10])))).length<=1000000/\∀k,(nth .str (ai i (ah j (parts c (ae s [10])))) k).length<=1000000:=
 ⟨by have:=P5 s c h;simp;omega,qN (HZ (tB h) i j)⟩
def Vl{w:List aD}(h:3<=w.length)(hk:(bS (ai 1 (ah 3 w))).2=true) :
  (bS (ai 1 (ah 3 w))).1=[dD (nth .str w 1),dD (nth .str w 2)]/\(cS (nth .str w 1)).isNone=false/\(cS (nth .str w 2)).isNone=false:=by
 have hl:(ai 1 (ah 3 w)).length=2:=HY h;obtain⟨a1,a2⟩:=zU hk (i:=0) (by omega);obtain⟨b1,b2⟩:=zU hk (i:=1) (by omega);have hn:=J3 hk;rw[Ct (t:=.str) (by omega)]at a1 a2 b1 b2;refine⟨lE (t:=.int .i64) (by rw[hn,hl];rfl) fun i hi =>?_,a2,b2⟩;rw[hn,hl]at hi;rcases(show i=0\/i=1 by omega)with rfl|rfl
 ·rw[a1];rfl
 ·rw[b1];rfl
def J4{w:List aD}(h:3<=w.length)(hk:(bS (ai 1 (ah 3 w))).2=false):¬p9 w:=by
 intro hd;have hl:(ai 1 (ah 3 w)).length=2:=HY h;rw[nj,vt fun j hj =>?_]at hk
 ·cases hk
 ·rw[hl]at hj
  rcases(show j=0\/j=1 by omega)with rfl|rfl
  ·rw[Ct (t:=.str) (by omega)];exact hd.ka
  ·rw[Ct (t:=.str) (by omega)];exact hd.kb
def H0{w:List aD}(h:¬p9 w):(true=false↔p9 w):=⟨fun e=>Bool.noConfusion e,fun e=>absurd e h⟩
def WD{w:List aD}(ka:(cS (nth .str w 1)).isNone=false)(kb:(cS (nth .str w 2)).isNone=false){a b x:Int}(ha:a=dD (nth .str w 1))(hb:b=dD (nth .str w 2))
  (a0:0<=a)(a6:a<=6)(b0:0<=b)(fE:b<=36)(hx:x=3*(a+b)):(((w.length:Int) != 3+x)=false↔p9 w):=by
 subst ha;subst hb;subst hx;constructor
 ·intro h;exact⟨ka,kb,a0,a6,b0,fE,by simpa using h⟩
 ·intro h;simpa using h.len
def qa{s:aD}{e:D aC}(hf:bC e=0)(ht:fO e=s):mn (parts 32 (ae s [10])) e/\la e:=by
 have k:=lF hf;rw[<-ht,tA k];exact⟨HW e,k⟩
def mn.na{A:aD->Int}(hA:UA A){w:List aD}{e:D aC}(r:mn w e)(k:la e):A (nth .str w 1)=(e.2.1.length:Int):=by rw[r.a,hA _ (gW k.na (by decide) (by decide))]
def mn.nb{A:aD->Int}(hA:UA A){w:List aD}{e:D aC}(r:mn w e)(k:la e):A (nth .str w 2)=(e.2.2.1.length:Int):=by rw[r.b,hA _ (gW k.nb (by decide) (by decide))]
def nk{n:Int}(h:il (-2147483648) 2147483647 n):(cS (ab n)).isNone=false:=by rw[rB h (by decide) (by decide)];rfl
def mn.hd{w:List aD}{e:D aC}(r:mn w e)(k:la e):p9 w:=by
 have a:=r.na iM k;have b:=r.nb iM k;have c:=k.p6;have d:=k.Cp;have l:=r.len;refine⟨by rw[r.a];exact nk (gW k.na (by decide) (by decide)),by rw[r.b];exact nk (gW k.nb (by decide) (by decide)),?_,?_,?_,?_,?_⟩ <;> (try rw[a]) <;> (try rw[b]) <;> omega
section
variable{s:aD}
def H2(h:(parts 32 (ae s [10])).length<3):(bY aC,aK.no 4)=gU s:=pH fun e hf ht=>by
 have:=(qa hf ht).1.len;omega
def J5(h:¬p9 (parts 32 (ae s [10]))):(bY aC,aK.no 4)=gU s:=pH fun e hf ht=>h ((qa hf ht).1.hd (qa hf ht).2)
def Te{w:List aD}{e:D aC}(r:mn w e)(k:la e){i:Nat}(hi:i<e.2.1.length):(cS (nth .str w (4+3*i))).isNone=false/\(cS (nth .str w (5+3*i))).isNone=false:=by
 obtain⟨_,k2,k3⟩:=k.parts i hi;rw[r.p1 i hi,r.p2 i hi];exact⟨nk (gW k2 (by decide) (by decide)),nk (gW k3 (by decide) (by decide))⟩
def P6{w:List aD}{e:D aC}(r:mn w e)(k:la e){i:Nat}(hi:e.2.1.length<=i)(hi2:i<e.2.1.length+e.2.2.1.length) :
  (cS (nth .str w (3+3*i))).isNone=false/\(cS (nth .str w (4+3*i))).isNone=false/\(cS (nth .str w (5+3*i))).isNone=false:=by
 obtain⟨j,rfl⟩:∃j,i=e.2.1.length+j:=⟨i-e.2.1.length,by omega⟩
 obtain⟨k1,k2,k3⟩:=k.HU j (by omega);rw[r.q0 j (by omega),r.q1 j (by omega),r.q2 j (by omega)];exact⟨nk (gW k1 (by decide) (by decide)),nk (gW k2 (by decide) (by decide)),nk k3⟩
structure lh (w x:List aD) (i:Nat):Prop where
 len:x.length=3
 a:nth .str x 0=nth .str w (3+3*i)
 b:nth .str x 1=nth .str w (4+3*i)
 c:nth .str x 2=nth .str w (5+3*i)
def P7{w:List aD}{i:Nat}{p q:Int}(hp:p=3*(i:Int))(hq:q=3*(i:Int))(h:3+3*(i+1)<=w.length):lh w (ai (cc (3+p)) (ah (cc (6+q)) w)) i:=by
 subst hp;subst hq;rw[show cc (3+3*(i:Int))=3+3*i by omega,show cc (6+3*(i:Int))=6+3*i by omega];refine⟨by rw[HY (by omega)];omega,?_,?_,?_⟩ <;> rw[Ct (t:=.str) (by omega)] <;> congr 1 <;> omega
def zV{n:Nat}{w x:List aD}{i:Nat}(h:lh w x i)(hw:∀y∈w,y.length<=n)(k:Nat):(nth .str x k).length<=n:=by
 rcases bg k 3 with hk|hk
 ·rcases(show k=0\/k=1\/k=2 by omega)with rfl|rfl|rfl
  ·rw[h.a];exact qN hw _
  ·rw[h.b];exact qN hw _
  ·rw[h.c];exact qN hw _
 ·unfold nth;rw[List.getD_eq_getElem?_getD,List.getElem?_eq_none (by rw[h.len];omega)];exact ar _
def Cu{w x:List aD}{i:Nat}(h:lh w x i):ai 1 (ah (bj x) x)=[nth .str w (4+3*i),nth .str w (5+3*i)]:=by
 match x,h with
 |[p,q,r],h=>rw[<-h.b,<-h.c];rfl
def H3{w x:List aD}{i:Nat}(h:lh w x i):x=[nth .str w (3+3*i),nth .str w (4+3*i),nth .str w (5+3*i)]:=by
 match x,h with
 |[p,q,r],h=>rw[<-h.a,<-h.b,<-h.c];rfl
def ES{w x:List aD}{i:Nat}(h:lh w x i)(hk:(bS (ai 1 (ah (bj x) x))).2=true) :
  (bS (ai 1 (ah (bj x) x))).1=[dD (nth .str w (4+3*i)),dD (nth .str w (5+3*i))]:=by
 rw[nj]at hk;unfold bS;rw[if_pos hk,Cu h];rfl
def H4{w x:List aD}{i:Nat}(h:lh w x i)(hk:(bS x).2=true):(bS x).1=[dD (nth .str w (3+3*i)),dD (nth .str w (4+3*i)),dD (nth .str w (5+3*i))]:=by
 rw[nj]at hk;unfold bS;rw[if_pos hk];conv=>lhs;rw[H3 h]
 rfl
def J6{x:List aD}{i:Nat}(h:lh (parts 32 (ae s [10])) x i)(hi:(i:Int)<dD (nth .str (parts 32 (ae s [10])) 1))(hk:(bS (ai 1 (ah (bj x) x))).2=false):(bY aC,aK.no 4)=gU s:=
 pH fun e hf ht=>by
  obtain⟨r,k⟩:=qa hf ht;rw[r.na iM k]at hi;obtain⟨a,b⟩:=Te r k (i:=i) (by omega);rw[nj,Cu h,vt fun j hj =>?_]at hk
  ·cases hk
  ·rcases(show j=0\/j=1 by simp at hj;omega)with rfl|rfl
   ·exact a
   ·exact b
def H5{x:List aD}{i:Nat}(h:lh (parts 32 (ae s [10])) x i)(hi:dD (nth .str (parts 32 (ae s [10])) 1)<=(i:Int))(hi2:(i:Int)<dD (nth .str (parts 32 (ae s [10])) 1)+dD (nth .str (parts 32 (ae s [10])) 2))(hk:(bS x).2=false):(bY aC,aK.no 4)=gU s:=
 pH fun e hf ht=>by
  obtain⟨r,k⟩:=qa hf ht;rw[r.na iM k]at hi hi2;rw[r.nb iM k]at hi2;obtain⟨a,b,c⟩:=P6 r k (i:=i) (by omega) (by omega);rw[H3 h]at hk;rw[nj,vt fun j hj =>?_]at hk
  ·cases hk
  ·rcases(show j=0\/j=1\/j=2 by simp at hj;omega)with rfl|rfl|rfl
   ·exact a
   ·exact b
   ·exact c
def Ge(A:aD->Int)(w:List aD)(a b:Nat):D aC:=(nth .str w 0,dU A w a,cT A w a b,())
def zW{a b:Nat}(ha:dD (nth .str (parts 32 (ae s [10])) 1)=(a:Int))(hb:dD (nth .str (parts 32 (ae s [10])) 2)=(b:Int))
  (h:(dJ (Ge dD (parts 32 (ae s [10])) a b)).2.isNil=false\/¬(dJ (Ge dD (parts 32 (ae s [10])) a b)).1=s):(bY aC,aK.no 4)=gU s:=
 pH fun e hf ht=>by
  obtain⟨r,k⟩:=qa hf ht;rw[r.na iM k]at ha;rw[r.nb iM k]at hb;have he:Ge dD (parts 32 (ae s [10])) a b=e:=by
   rw[<-dd.1 ha,<-dd.1 hb];exact(r.eq iM k).symm
  rw[he]at h;unfold dJ at h;rw[if_neg (not_not_intro hf)]at h;rcases h with h|h
  ·cases h
  ·exact h ht
end
def q9(w:List aD)(y:List Int×Bool):Prop:=(y.2=true->y.1=[dD (nth .str w 1),dD (nth .str w 2)]/\(cS (nth .str w 1)).isNone=false/\(cS (nth .str w 2)).isNone=false)/\(y.2=false->¬p9 w)
def Vm{w:List aD}(h:3<=w.length):q9 w (bS (ai 1 (ah 3 w))):=⟨fun hk=>Vl h hk,fun hk=>J4 h hk⟩
def q9.ok{w:List aD}{y:List Int×Bool}(h:q9 w y)(hd:p9 w):y.2=true:=by
 cases hy:y.2 with
 |true=>rfl
 |false=>exact absurd hd (h.2 hy)
def q9.get{w:List aD}{y:List Int×Bool}(h:q9 w y)(hd:p9 w):y.1=[dD (nth .str w 1),dD (nth .str w 2)]:=(h.1 (h.ok hd)).1
def q9.l0{w:List aD}{y:List Int×Bool}(h:q9 w y)(hy:y.2=true):@Eq Int (nth (.int .i64) y.1 0) (dD (nth .str w 1)):=by rw[(h.1 hy).1];rfl
def q9.l1{w:List aD}{y:List Int×Bool}(h:q9 w y)(hy:y.2=true):@Eq Int (nth (.int .i64) y.1 1) (dD (nth .str w 2)):=by rw[(h.1 hy).1];rfl
def q9.k0{w:List aD}{y:List Int×Bool}(h:q9 w y)(hd:p9 w):@Eq Int (nth (.int .i64) y.1 0) (dD (nth .str w 1)):=h.l0 (h.ok hd)
def q9.k1{w:List aD}{y:List Int×Bool}(h:q9 w y)(hd:p9 w):@Eq Int (nth (.int .i64) y.1 1) (dD (nth .str w 2)):=h.l1 (h.ok hd)
def P8{w x:List aD}{i:Nat}(h:lh w x i)(hw:∀y∈w,y.length<=1000000):x.length<=1000000/\∀k,(nth .str x k).length<=1000000:=⟨by rw[h.len];decide,zV h hw⟩
def P9{w x:List aD}{i:Nat}(h:lh w x i){n:Nat}(hw:∀y∈w,y.length<=n):∀y∈x,y.length<=n:=fun y hy=>by
 obtain⟨k,hk,rfl⟩:=hH (t:=.str) hy;exact zV h hw k
def Nt{w x:List aD}{i:Nat}(h:lh w x i)(hw:∀y∈w,y.length<=1000000):(ai 1 (ah (bj x) x)).length<=1000000/\∀k,(nth .str (ai 1 (ah (bj x) x)) k).length<=1000000:=
 ⟨by have:=h.len;simp;omega,qN (HZ (P9 h hw) _ _)⟩
def Qa(A:aD->Int)(w:List aD)(k:Nat):([]:List (D aG))=dU A w (a8 0 k):=by rw[show a8 0 k=0 from Nat.zero_min k];rfl
def UB(A:aD->Int)(w:List aD)(k:Nat):([]:List (D aR))=cT A w k (0-k):=by rw[Nat.zero_sub];rfl
def Qb{i k:Nat}(h:i<k):a8 i k=i/\a8 (i+1) k=i+1:=⟨c7 (by omega),c7 h⟩
def H6{i k:Nat}(h:k<=i):a8 i k=k/\a8 (i+1) k=k:=⟨fp h,fp (by omega)⟩
def ET{w x:List aD}{i k:Nat}(h:lh w x i)(hk:(bS (ai 1 (ah (bj x) x))).2=true)(hi:i<k) :
  dU dD w (a8 i k)++[(nth .str x 0,nth (.int .i64) (bS (ai 1 (ah (bj x) x))).1 0,nth (.int .i64) (bS (ai 1 (ah (bj x) x))).1 1,())]=dU dD w (a8 (i+1) k):=by
 rw[(Qb hi).1,(Qb hi).2,HX,ES h hk,h.a];rfl
def EU{A:aD->Int}{w:List aD}{i k:Nat}(hi:i<k):cT A w k (i-k)=cT A w k (i+1-k):=by congr 1;omega
def Cv{A:aD->Int}{w:List aD}{i k:Nat}(hi:k<=i):dU A w (a8 i k)=dU A w (a8 (i+1) k):=by rw[(H6 hi).1,(H6 hi).2]
def H7{w x:List aD}{i k:Nat}(h:lh w x i)(hk:(bS x).2=true)(hi:k<=i) :
  cT dD w k (i-k)++[(nth (.int .i64) (bS x).1 0,nth (.int .i64) (bS x).1 1,nth (.int .i64) (bS x).1 2,())]=cT dD w k (i+1-k):=by
 rw[show i+1-k=(i-k)+1 by omega,Ds,H4 h hk];unfold uk;rw[show k+(i-k)=i by omega];rfl
def H8{A:aD->Int}{w:List aD}{i a b:Nat}(h:i=a+b):(((nth .str w 0,dU A w (a8 i a),cT A w a (i-a),())):D aC)=Ge A w a b:=by
 rw[(H6 (i:=i) (k:=a) (by omega)).1,show i-a=b by omega];rfl
def Nu{A:aD->Int}{w:List aD}{n:Nat}{x:D aG}(h:n<=100):(dU A w n).length+ [x].length<=1000000000:=by rw[zS,da];omega
def Qc{A:aD->Int}{w:List aD}{k n:Nat}{x:D aR}(h:n<=100):(cT A w k n).length+ [x].length<=1000000000:=by rw[vV,da];omega
def J7{A:aD->Int}{w:List aD}{i k:Nat}{x:D aG}(h:k<=100):(dU A w (a8 i k)).length+ [x].length<=1000000000:=Nu (b5 (Nat.min_le_right i k) h)
def vu{e:D aC}(h:(dJ e).2.isNil=true):bC e=0/\(dJ e).1=fO e:=by
 have hf:bC e=0:=by
  apply aq;intro hf;unfold dJ at h;rw[if_pos hf]at h;exact hf (aQ.1 h)
 exact⟨hf,by unfold dJ;rw[if_neg (not_not_intro hf)]⟩
def Nv{e:D aC}(h:(dJ e).2.isNil=true):(dJ e).1.length<=2753:=by
 obtain⟨hf,ht⟩:=vu h;rw[ht];unfold fO;have:=(lF hf).AK e.2.2.1.length;rw[aw];unfold rm;simp;omega
section
variable{s:aD}
end
def H9(e:D aC):(dJ e).2=aI (bC e):=by
 unfold dJ;split
 ·rfl
 ·next h=>rw[Classical.not_not.1 h];rfl
end Go.Mrl

namespace Go.Vg
open Go.RowKit
def mM(F:Fence):Prop:=F=bd\/∃l,F=bd.inRound l
def mo(ds:List Deferred)(a:Act):Act:={a with defers:=ds}
def rD(ds:List Deferred)(a:Act)(d:Option Tmp)(v:Value):(mo ds a).put d v=mo ds (a.put d v):=by cases d <;> rfl
def Ia(ds:List Deferred)(a:Act):(mo ds a).eval=a.eval:=by funext x;cases x <;> rfl
def Ib(ds:List Deferred)(a:Act):(mo ds a).tmps=a.tmps:=rfl
def put_defers(a:Act)(d:Option Tmp)(v:Value):(a.put d v).defers=a.defers:=by cases d <;> rfl
section
variable{P:Program}{F:Fence}{n:Nat}
def mM.fn(h:mM F)(f:FuncId):F.fn f:=by rcases h with rfl|⟨l,rfl⟩ <;> trivial
def mM.deep(h:mM F):¬F.depth.isSome=true:=by rcases h with rfl|⟨l,rfl⟩ <;> simp[bd,Fence.inRound]
def mM.calls(h:mM F){f:FuncId}{args:Array Value}{w:World}{R:Ending->World->Prop}(hc:Calls P f args w R):CallsIn F n P f args w R:=by
 rcases h with rfl|⟨l,rfl⟩
 ·exact callsIn_wide.2 hc
 ·exact CallsIn.inRound l (callsIn_wide.2 hc)
def mM.rows(h:mM F){row:String}{args:Array Value}{w:World}{R:Value->World->Prop}(hc:Rows P row args w R):RowsIn F n P row args w R:=by
 have hs:∀{m m':Machine},Steps P m m'->StepsIn (Machine.fenced P F) P m m':=by
  rcases h with rfl|⟨l,rfl⟩
  ·exact stepsIn_wide.2
  ·exact fun hh=>stepsIn_wide.2 hh
 intro c cs _;obtain⟨v,w',r,s⟩:=hc c cs;exact⟨v,w',r,hs s⟩
structure vw (Q:Exit->Act->World->Prop):Prop where
 bare:∀e a w,Q e a w->a.defers=[]
 Qd:∀c a w,¬Q (.panic c) a w
 out:¬LetsOut Q
variable{Q Q':Exit->Act->World->Prop}
def Dt(hQ:vw Q){o:Oper}{K:Act->World->Prop}(hK:∀a w,K a w->a.defers=[]){a:Act}{w:World}(h:o.wp P a w K Q):a.defers=[]:=by
 unfold Oper.wp at h;generalize (execOp a.eval o).run P w=r at h;cases r with
 |ok x w'=>
  cases x with
  |value v=>have:=hK _ _ h;rwa [put_defers]at this
  |skip=>have:=hK _ _ h;rwa [put_defers]at this
  |defer d=>have:=hK _ _ h;rw[put_defers]at this;cases this
  |enter f args=>
   obtain⟨e,w2,fr,hr,_⟩:=h [];cases e with
   |returned v=>have:=hK _ _ hr;rwa [put_defers]at this
   |panicked c=>exact absurd hr (hQ.Qd _ _ _)
   |outgrown=>exact absurd hr hQ.out
  |row row args=>
   obtain⟨v,w2,hr,_⟩:=h default [];have:=hK _ _ hr;rwa [put_defers]at this
  |_=>exact h.elim
 |halt x w'=>
  cases x with
  |panic v=>exact absurd h (hQ.Qd _ _ _)
  |_=>exact h.elim
def nM(o:Oper):Bool:=match o.op with
 |.defer _=>false
 |_=>true
def Nw{o:Oper}(h:nM o=true):∀c,o.op≠.defer c:=by
 intro c e;unfold nM at h;rw[e]at h;cases h
def UC(hF:mM F)(hQ:vw Q){o:Oper}(hnd:nM o=true){K K':Act->World->Prop}{ds:List Deferred}(hK:∀a w,K a w->a.defers=[])(hK':∀a w,K a w->K' (mo ds a) w){a:Act}{w:World}
  (h:o.wp P a w K Q):o.wpIn F n P (mo ds a) w K' Q':=by
 refine⟨fun f _=>hF.fn f,?_⟩;rw[fq _ _ _ (Nw hnd),Ia];unfold Oper.wp at h;have hb:=Dt (P:=P) hQ hK (o:=o) (a:=a) (w:=w) h;generalize (execOp a.eval o).run P w=r at h;cases r with
 |ok x w'=>
  cases x with
  |value v=>simp only[cr,rD];exact hK' _ _ h
  |skip=>simp only[cr,rD];exact hK' _ _ h
  |defer d=>have:=hK _ _ h;rw[put_defers]at this;cases this
  |enter f args=>
   simp only[cr];refine⟨fun e=>absurd e hF.deep,hF.calls (Calls.mono h fun e w2 hr =>?_)⟩;cases e with
   |returned v=>simp only[rD];exact hK' _ _ hr
   |panicked c=>exact absurd hr (hQ.Qd _ _ _)
   |outgrown=>exact absurd hr hQ.out
  |row row args=>
   simp only[cr];refine⟨fun e=>absurd e hF.deep,hF.rows (Rows.mono h fun v w2 hr =>?_)⟩;simp only[rD];exact hK' _ _ hr
  |_=>exact h.elim
 |halt x w'=>
  cases x with
  |panic v=>exact absurd h (hQ.Qd _ _ _)
  |_=>exact h.elim
def xE(hQ:vw Q){ops:Array Oper}:∀(l:List Oper) (a:Act) (w:World),wpList P ops Q l a w->a.defers=[]
 |[],a,w,h=>hQ.bare _ _ _ h
 |o :: r,a,w,h=>by
  unfold wpList at h;split at h
  ·rcases h with h|⟨_,h⟩
   ·exact Dt hQ (fun a w h=>xE hQ r a w h) h
   ·exact absurd h hQ.out
  ·have:=xE hQ r _ _ h;rwa [put_defers]at this
def Du(hF:mM F)(hQ:vw Q){ds:List Deferred}(hE:∀a w,Q .normal a w->Q' .normal (mo ds a) w){ops:Array Oper}:∀(l:List Oper) (_:l.all nM=true) (a:Act) (w:World),wpList P ops Q l a w->wpListIn F n P ops Q' l (mo ds a) w
 |[],_,a,w,h=>hE a w h
 |o :: r,hl,a,w,h=>by
  simp only[List.all_cons,af]at hl;unfold wpListIn;unfold wpList at h;rw[Ib];split
  ·rename_i hw
   rw[if_pos hw]at h;rcases h with h|⟨_,h⟩
   ·exact UC hF hQ hl.1 (fun a w h=>xE hQ r a w h) (fun a w h=>Du hF hQ hE r hl.2 a w h) h
   ·exact absurd h hQ.out
  ·rename_i hw
   rw[if_neg hw]at h;refine⟨fun f _=>hF.fn f,?_⟩;rw[rD];exact Du hF hQ hE r hl.2 _ _ h
def Qe(hQ:vw Q){ops:Array Oper}{i:Nat}{K:Act->World->Prop}(hK:∀a w,K a w->a.defers=[]){a:Act}{w:World}(h:wpOp P ops Q i K a w):a.defers=[]:=by
 unfold wpOp at h;split at h
 ·exact hK _ _ h
 ·split at h
  ·rcases h with h|⟨_,h⟩
   ·exact Dt hQ hK h
   ·exact absurd h hQ.out
  ·have:=hK _ _ h;rwa [put_defers]at this
def Ic(hQ:vw Q){ops:Array Oper}{md:fs}:∀(n:Nat) (L:Array Bool) (a:Act) (w:World),wpAny P md ops Q n L a w->a.defers=[]
 |0,_,_,_,h=>hQ.bare _ _ _ h.2
 |n+1,L,a,w,h=>by
  cases hr:Region.ready md ops L with
  |nil=>exact hQ.bare _ _ _ (h.1 hr)
  |cons i r=>exact Qe hQ (fun a w h=>Ic hQ n _ a w h) (h.2 i (by rw[hr];simp))
def Vn(hF:mM F)(hQ:vw Q){ops:Array Oper}(hl:ops.toList.all nM=true){ds:List Deferred}{i:Nat}{K K':Act->World->Prop}(hK:∀a w,K a w->a.defers=[])(hK':∀a w,K a w->K' (mo ds a) w){a:Act}{w:World}
  (h:wpOp P ops Q i K a w):wpOpIn F n P ops Q' i K' (mo ds a) w:=by
 unfold wpOpIn;unfold wpOp at h;split
 ·rename_i hi;simp only[hi]at h;exact hK' _ _ h
 ·rename_i o hi
  simp only[hi]at h;have ho:nM o=true:=ca.1 hl o (by rw[<-Array.getElem?_toList]at hi;exact br hi);rw[Ib];split
  ·rename_i hw
   rw[if_pos hw]at h;rcases h with h|⟨_,h⟩
   ·exact UC hF hQ ho hK hK' h
   ·exact absurd h hQ.out
  ·rename_i hw
   rw[if_neg hw]at h;refine⟨fun f _=>hF.fn f,?_⟩;rw[rD];exact hK' _ _ h
def Qf(hF:mM F)(hQ:vw Q){ds:List Deferred}(hE:∀a w,Q .normal a w->Q' .normal (mo ds a) w){ops:Array Oper}(hl:ops.toList.all nM=true){md:fs}:∀(k:Nat) (L:Array Bool) (a:Act) (w:World),wpAny P md ops Q k L a w->wpAnyIn F n P md ops Q' k L (mo ds a) w
 |0,_,_,_,h=>⟨h.1,hE _ _ h.2⟩
 |k+1,L,a,w,h=>⟨fun e=>hE _ _ (h.1 e),fun i hi=>Vn hF hQ hl (fun a w h=>Ic hQ k _ a w h) (fun a w h=>Qf hF hQ hE hl k _ a w h) (h.2 i hi)⟩
end
def kA:Code->Bool
 |.skip=>true
 |.region _ ops _=>ops.toList.all nM
 |.seq a b=>kA a&&kA b
 |.cond _ a b=>kA a&&kA b
 |.block _ b=>kA b
 |.exit _=>true
 |.ret=>true
 |_=>false
section
variable{X:Ext}{P:Program}{cx:Cx}{F:Fence}{n:Nat}
def zX(ds:List Deferred)(Q:Exit->Act->World->Prop):Exit->Act->World->Prop:=fun e a w=>∃a',a=mo ds a'/\a'.defers=[]/\Q e a' w
def AW{O:aH}{K:Ex->St->VC}{W:List Nat}{st:St}{S:bH}:vw (jv cx X O K W st S) where
 bare e a w h:=by
  cases e with
  |normal=>obtain⟨_,_,_,_,_,k,_⟩:=h;exact k.defers
  |exit i=>obtain⟨_,_,_,_,_,k,_⟩:=h;exact k.defers
  |ret=>obtain⟨_,_,_,_,_,k,_⟩:=h;exact k.defers
  |goto l=>exact h.elim
  |panic c=>exact h.elim
  |outgrown=>exact h.elim
 Qd c a w h:=h.elim
 out h:=let⟨_,_,hh⟩:=h;hh.elim
def jv.on{O:aH}{K:Ex->St->VC}{W:List Nat}{st:St}{S:bH}{ds:List Deferred}{e:Exit}{a:Act}{w:World}(h:jv cx X O K W st S e a w):zX ds (jv cx X O K W st S) e (mo ds a) w:=⟨a,rfl,AW.bare _ _ _ h,h⟩
def WE(hok:ln P cx X)(hF:mM F)(ds:List Deferred){O:aH}{id:Nat}{ops:Array Oper}{draw:Bool}(hl:ops.toList.all nM=true){st:St}{loc:Nat->Loc}{w:World}{a:Act}{K:Ex->St->VC}(hA:fM cx (aA O st loc w) st a)(g:Good cx.eT X (aA O st loc w))(hO:eR O w)
  (h:(yk cx ops draw st (K .normal)).holds):(Code.region id ops draw).wpIn F n P (zX ds (jv cx X O K (dR ops.toList) st (aA O st loc w))) (mo ds a) w:=by
 have hW:∀(j:Nat) (oj:Oper) (d:Nat),ops[j]?=some oj->oj.dst=some d->d∈dR ops.toList:=by
  intro j oj d hj hd;exact eg.2 ⟨oj,by rw[<-Array.getElem?_toList]at hj;exact br hj,hd⟩
 have hq:∀st' loc' a' w',(K .normal st').holds->Good cx.eT X (aA O st' loc' w')->Tr (aA O st loc w) (aA O st' loc' w')->fM cx (aA O st' loc' w') st' a'->nz (dR ops.toList) st st'->
   jv cx X O K (dR ops.toList) st (aA O st loc w) .normal a' w':=fun st' loc' a' w' h1 h2 h3 h4 h5=>⟨st',loc',h1,h2,h3,h4,h5⟩
 unfold yk at h;cases draw with
 |false=>
  refine wpIn_region_list (Du hF AW (fun a w h=>h.on) _ hl _ _ ?_);exact yQ hok hW ops.toList (fun o ho d hd=>eg.2 ⟨o,ho,hd⟩) hA g hO h hq
 |true=>
  split at h
  ·rename_i e;cases e
  ·rename_i e
   split at h
   ·rename_i hreg
    rw[KV]at h;refine wpIn_region_any hok.mixed (Qf hF AW (fun a w h=>h.on) hl _ _ _ _ (C8 (loud:=kg cx ops.toList) _ _ _ _ (aA O st loc {w with drawn:=w.drawn+1}).A ?_));have hdrew:Below w.heap.size w {w with drawn:=w.drawn+1}:=⟨rfl,rfl,ak _,fun _ _=>rfl⟩;obtain⟨tr,g'⟩:=o6 (S:=aA O st loc w) (S':=aA O st loc {w with drawn:=w.drawn+1}) g rfl rfl rfl rfl hdrew;refine yR hok hW hreg (fun c a w h=>h) ops.size _ ?_ ⟨hA.size,hA.defers,hA.env.tr tr⟩ g' (hO.tr (ak _)) h ?_
    ·intro j o ho hj
     rw[eh,Array.getElem?_replicate]at hj;split at hj <;> simp at hj
    ·intro st' loc' a' w' h1 h2 h3 h4 h5
     obtain⟨st2,loc2,k1,k2,k3,k4,k5⟩:=fT.Xj (K:=K .normal) (f:=canon st.next (dR ops.toList)) (W:=dR ops.toList) hA (fun st'=>by
      rcases BN st.next (dR ops.toList) st' with e|⟨r,q,k1,k2⟩
      ·exact .inl e
      ·exact .inr ⟨r,q,k1,k2⟩) (⟨st',loc',h1,h2,tr.trans h3,h4,h5⟩:fT cx X O (fun st'=>K .normal (canon st.next (dR ops.toList) st')) (dR ops.toList) st (aA O st loc w) a' w')
     exact hq st2 loc2 a' w' k1 k2 k3 k4 k5
   ·exact h.elim
def zX.mono{ds:List Deferred}{Q Q':Exit->Act->World->Prop}(h:∀e a w,Q e a w->Q' e a w){e:Exit}{a:Act}{w:World}(hq:zX ds Q e a w):zX ds Q' e a w:=let⟨a',k1,k2,k3⟩:=hq;⟨a',k1,k2,h _ _ _ k3⟩
def xF(hok:ln P cx X)(hF:mM F)(ds:List Deferred){O:aH}:∀(c:Code) (cur:Nat) (_:kA c=true) {st:St} {loc:Nat->Loc} {w:World} {a:Act} {K:Ex->St->VC},
  fM cx (aA O st loc w) st a->Good cx.eT X (aA O st loc w)->eR O w->(vc cx [] c cur st K).holds->c.wpIn F n P (zX ds (jv cx X O K (writes [] cur c) st (aA O st loc w))) (mo ds a) w:=by
 intro c;induction c with
 |skip=>intro cur _ st loc w a K hA g hO h;exact wpIn_skip (jv.on ⟨st,loc,h,g,Tr.refl _,hA,fun _ _ _ _ h=>h⟩)
 |region id ops draw=>
  intro cur hs st loc w a K hA g hO h;exact WE hok hF ds hs hA g hO h
 |seq c1 c2 ih1 ih2=>
  intro cur hs st loc w a K hA g hO h;simp only[kA,af]at hs;refine wpIn_seq ?_;refine wpIn_mono (ih1 cur hs.1 hA g hO h) ?_;rintro e a0 w' ⟨a',rfl,hb,hq⟩;have key:∀e,e≠.normal->jv cx X O (fun e st'=>match e with
   |.normal=>vc cx [] c2 cur st' K
   |e=>K e st') (writes [] cur c1) st (aA O st loc w) e a' w'->zX ds (jv cx X O K (writes [] cur (.seq c1 c2)) st (aA O st loc w)) e (mo ds a') w':=by
   intro e he hq;refine jv.on (jv.mono (W:=writes [] cur c1) (st1:=st) (S1:=aA O st loc w) ?_ (Tr.refl _) (fun _ _ _ _ h=>h) (fun n hn=>au.2 (.inl hn)));cases e with
   |normal=>exact absurd rfl he
   |exit i=>exact hq
   |ret=>exact hq
   |goto l=>exact hq.elim
   |panic c=>exact hq.elim
   |outgrown=>exact hq.elim
  cases e with
  |normal=>
   obtain⟨st',loc',k1,k2,k3,k4,k5⟩:=hq;refine wpIn_mono (ih2 cur hs.2 k4 k2 (hO.tr k3.size) k1) ?_;intro e a2 w2 hq2;exact hq2.mono fun e a w hq=>hq.mono k3 (W':=writes [] cur (.seq c1 c2)) (fun hm t ht=>k5 (fun h=>hm (au.2 (.inl h))) t fun hm=>ht (au.2 (.inl hm))) (fun n hn=>au.2 (.inr hn))
  |exit i=>exact key _ (by simp) hq
  |ret=>exact key _ (by simp) hq
  |goto l=>exact hq.elim
  |panic c=>exact hq.elim
  |outgrown=>exact hq.elim
 |cond x c1 c2 ih1 ih2=>
  intro cur hs st loc w a K hA g hO h;simp only[kA,af]at hs;have hx:=bM hA.env x;have h1:∀{K},(vc cx [] c1 cur st K).holds->c1.wpIn F n P (zX ds (jv cx X O K (writes [] cur (.cond x c1 c2)) st (aA O st loc w))) (mo ds a) w:=fun h=>
   wpIn_mono (ih1 cur hs.1 hA g hO h) fun e a' w' hq=>hq.mono fun e a w hq=>hq.mono (Tr.refl _) (fun _ _ _ _ h=>h) (fun n hn=>au.2 (.inl hn))
  have h2:∀{K},(vc cx [] c2 cur st K).holds->c2.wpIn F n P (zX ds (jv cx X O K (writes [] cur (.cond x c1 c2)) st (aA O st loc w))) (mo ds a) w:=fun h=>
   wpIn_mono (ih2 cur hs.2 hA g hO h) fun e a' w' hq=>hq.mono fun e a w hq=>hq.mono (Tr.refl _) (fun _ _ _ _ h=>h) (fun n hn=>au.2 (.inr hn))
  have hev:(mo ds a).eval x=a.eval x:=by rw[Ia]
  have h':(match dW st.env x with
    |.lit true=>vc cx [] c1 cur st K
    |.lit false=>vc cx [] c2 cur st K
    |.d .bool g =>.ite g (vc cx [] c1 cur st K) (vc cx [] c2 cur st K)
    |_ =>.ff).holds:=h
  split at h'
  ·rename_i hl;rw[hl]at hx;exact wpIn_cond_true (hev.trans hx) (h1 h')
  ·rename_i hl;rw[hl]at hx;exact wpIn_cond_false (hev.trans hx) (h2 h')
  ·rename_i b hl
   rw[hl]at hx;have hx:=(eN (eT:=cx.eT) (S:=aA O st loc w) (b:=b)).1 hx;cases b
   ·exact wpIn_cond_false (hev.trans hx) (h2 (h'.2 rfl))
   ·exact wpIn_cond_true (hev.trans hx) (h1 (h'.1 rfl))
  ·exact h'.elim
 |block id b ih=>
  intro cur hs st loc w a K hA g hO h;refine wpIn_block ?_;have h':(vc cx [] b id st fun e st'=>match e with
   |.exit i=>match bp i id with
    |true=>K .normal st'
    |false=>K (.exit i) st'
   |e=>K e st').holds:=h
  refine wpIn_mono (ih id hs hA g hO h') ?_;rintro e a0 w' ⟨a',rfl,hb,hq⟩;cases e with
  |normal=>exact jv.on hq
  |exit i=>
   obtain⟨st',loc',k1,k2,k3,k4,k5⟩:=hq;simp only at k1;show if i=id then _ else _
   split at k1
   ·rename_i hi
    rw[if_pos (bz hi)];exact jv.on ⟨st',loc',k1,k2,k3,k4,k5⟩
   ·rename_i hi
    rw[if_neg (fun e=>by rw[e,Nat.beq_refl]at hi;cases hi)];exact jv.on ⟨st',loc',k1,k2,k3,k4,k5⟩
  |ret=>exact jv.on hq
  |goto l=>exact hq.elim
  |panic c=>exact hq.elim
  |outgrown=>exact hq.elim
 |exit id=>intro cur _ st loc w a K hA g hO h;exact wpIn_exit (jv.on ⟨st,loc,h,g,Tr.refl _,hA,fun _ _ _ _ h=>h⟩)
 |ret=>intro cur _ st loc w a K hA g hO h;exact wpIn_ret (jv.on ⟨st,loc,h,g,Tr.refl _,hA,fun _ _ _ _ h=>h⟩)
 |_=>intro cur hs;cases hs
end
structure sd (B:Nat) (W W':World):Prop where
 os:W'.os=W.os
 output:W'.output=W.output
 size:W.heap.size<=W'.heap.size
 below:∀k,k<B->k<W.heap.size->W'.heap[k]?=W.heap[k]?
 cells:∀(k:Nat) (o:Obj),W.heap[k]?=some o->o.isCells=true->W'.heap[k]?=W.heap[k]?
def sd.of{B:Nat}{W W':World}{row:Option Nat}(hg:W.grownBy W' row)(hr:∀r,row=some r->B<=r/\∃o:Obj,W.heap[r]?=some o/\o.isCells=false):sd B W W':=
 ⟨hg.os,hg.output,hg.size,fun k h1 h2=>hg.block k h2 (fun e=>by have:=(hr k e.symm).1;omega),fun k o hk hc=>grownBy_keeps_cells hg (fun r e=>(hr r e).2) hk hc⟩
def sd.cell{B:Nat}{W W':World}(h:sd B W W'){b o:Nat}{v:Value}(hc:W.cell? ⟨b,o,none⟩=some v):W'.cell? ⟨b,o,none⟩=some v:=by
 obtain⟨ob,ho,hcs⟩:=cells_of_cell hc;exact(World.cell?_of_block (h.cells _ ob ho hcs)).trans hc
def plainO:OC->Bool
 |.cells _ _=>true
 |.aV _ _=>true
 |.arr _ _=>true
 |.tok _ _=>true
 |.ext k _ _=>bp k 0 || bp k 2
 |.iter _ _ _=>false
def oh:List (Nat×OC)->Bool
 |[]=>true
 |(_,oc) :: r=>plainO oc&&oh r
def mA:∀{l:List (Nat×OC)},oh l=true->∀{n:Nat} {oc:OC},look l n=some oc->plainO oc=true
 |[],_,_,_,h=>by simp[look]at h
 |(m,x) :: r,hp,n,oc,h=>by
  simp only[oh,af]at hp;rw[cE]at h;split at h
  ·cases h;exact hp.1
  ·exact mA hp.2 h
section
variable{eT:TypeId}{X:Ext}
def CR.l9{S S':bH}(hob:S'.ob=S.ob)(hloc:S'.loc=S.loc)(hn:S'.next=S.next)(hc:∀b o v,¬S.A b o->S.w.cell? ⟨b,o,none⟩=some v->S'.w.cell? ⟨b,o,none⟩=some v/\¬S'.A b o)
  {c:C}{v:Value}(h:CR eT S c v):CR eT S' c v:=by
 cases c with
 |d t x=>exact VR.frame h hc
 |app t xs n=>obtain⟨h1,h2,h3⟩:=h;exact⟨VR.frame h1 hc,by rw[hn];exact h2,by rw[hob,hloc];exact h3⟩
 |oH t x=>obtain⟨b,o,us,rfl,h1,h2⟩:=h;exact⟨b,o,us,rfl,h1.frame hc,h2.frame hc⟩
 |fn f caps=>simp only[CR,bH.fixed,hob,hloc,hn]at h ⊢;exact h
 |_=>simp only[CR,hob,hloc,hn]at h ⊢ <;> exact h
def eB.l9{S S':bH}(hob:S'.ob=S.ob)(hloc:S'.loc=S.loc)(hn:S'.next=S.next)(hc:∀b o v,¬S.A b o->S.w.cell? ⟨b,o,none⟩=some v->S'.w.cell? ⟨b,o,none⟩=some v/\¬S'.A b o)
  {cs:List C}{vs:List Value}(h:eB eT S cs vs):eB eT S' cs vs:=by
 induction h with
 |nil=>exact .nil
 |cons h1 h2 _ ih=>exact .cons (h1.l9 hob hloc hn hc) h2 ih
def iv.l9{S S':bH}(hob:S'.ob=S.ob)(hloc:S'.loc=S.loc)(hn:S'.next=S.next)(hc:∀b o v,¬S.A b o->S.w.cell? ⟨b,o,none⟩=some v->S'.w.cell? ⟨b,o,none⟩=some v/\¬S'.A b o)
  {x:cO}{v:Value}(h:iv eT S x v):iv eT S' x v:=by
 cases x with
 |one c=>exact CR.l9 hob hloc hn hc h
 |agg cs=>obtain⟨vs,rfl,h1⟩:=h;exact⟨vs,rfl,h1.l9 hob hloc hn hc⟩
def cP.l9{S S':bH}(hob:S'.ob=S.ob)(hloc:S'.loc=S.loc)(hn:S'.next=S.next)(hc:∀b o v,¬S.A b o->S.w.cell? ⟨b,o,none⟩=some v->S'.w.cell? ⟨b,o,none⟩=some v/\¬S'.A b o)
  {xs:List cO}{vs:List Value}(h:cP eT S xs vs):cP eT S' xs vs:=by
 induction h with
 |nil=>exact .nil
 |cons h1 _ ih=>exact .cons (h1.l9 hob hloc hn hc) ih
def dK.l9{S S':bH}(hob:S'.ob=S.ob)(hloc:S'.loc=S.loc)(hn:S'.next=S.next)(hc:∀b o v,¬S.A b o->S.w.cell? ⟨b,o,none⟩=some v->S'.w.cell? ⟨b,o,none⟩=some v/\¬S'.A b o)
  {x:SV}{v:Value}(h:dK eT S x v):dK eT S' x v:=by
 cases x with
 |s x=>exact iv.l9 hob hloc hn hc h
 |mN xs=>obtain⟨vs,rfl,h1⟩:=h;exact⟨vs,rfl,h1.l9 hob hloc hn hc⟩
def OR.l9{S S':bH}(hob:S'.ob=S.ob)(hloc:S'.loc=S.loc)(hn:S'.next=S.next)(hc:∀b o v,¬S.A b o->S.w.cell? ⟨b,o,none⟩=some v->S'.w.cell? ⟨b,o,none⟩=some v/\¬S'.A b o)
  {l:Loc}{oc:OC}(hb:∀b,b∈l.bs->S'.w.heap[b]?=S.w.heap[b]?)(ho:OR eT X S l oc):OR eT X S' l oc:=by
 have he:∀{t:Ty} {xs:List (D t)} {vs:Array Value},kE eT S t xs vs->kE eT S' t xs vs:=fun h i y hy=>let⟨us,h1,h2⟩:=h i y hy;⟨us,h1.frame hc,h2⟩
 cases oc with
 |cells T cs=>
  obtain⟨b,vs,h1,h2,h3,h4⟩:=ho;exact⟨b,vs,h1,h2,by rw[hb b (by simp[h2])];exact h3,h4.l9 hob hloc hn hc⟩
 |aV t xs=>
  rcases ho with ho|⟨b,vs,T,cap,h1,h2,h3,h4,h5,h6,h7⟩
  ·exact .inl ho
  ·exact .inr ⟨b,vs,T,cap,h1,h2,by rw[hb b (by simp[h2])];exact h3,h4,h5,h6,he h7⟩
 |arr t xs=>
  obtain⟨b,vs,T,h1,h2,h3,h4,h5⟩:=ho;exact⟨b,vs,T,h1,h2,by rw[hb b (by simp[h2])];exact h3,h4,he h5⟩
 |tok t xs=>
  rcases ho with ho|⟨b,vs,T,cap,h1,h2,h3,h4,h5,h6,h7⟩
  ·exact .inl ho
  ·exact .inr ⟨b,vs,T,cap,h1,h2,by rw[hb b (by simp[h2])];exact h3,h4,h5,h6,he h7⟩
 |ext k t x=>exact X.frame ho hb
 |iter cs seen cl=>
  obtain⟨b,m,c,sn,h1,h2,h3,h4,h5,h6⟩:=ho;exact⟨b,m,c,sn,h1,h2,by rw[hb b (by simp[h2])];exact h3,h4.l9 hob hloc hn hc,h5,h6⟩
def OR.Qg{S:bH}{l:Loc}{oc:OC}(hp:plainO oc=true)(ho:OR eT X S l oc):∀b∈l.bs,∃vs T fz,S.w.heap[b]?=some (.cells vs T fz):=by
 intro b hb;cases oc with
 |cells T cs=>obtain⟨b',vs,_,h2,h3,_⟩:=ho;rw[h2]at hb;simp at hb;subst hb;exact⟨_,_,_,h3⟩
 |aV t xs=>
  rcases ho with⟨_,_,h⟩|⟨b',vs,T,cap,_,h2,h3,_⟩
  ·rw[h]at hb;simp at hb
  ·rw[h2]at hb;simp at hb;subst hb;exact⟨_,_,_,h3⟩
 |arr t xs=>obtain⟨b',vs,T,_,h2,h3,_⟩:=ho;rw[h2]at hb;simp at hb;subst hb;exact⟨_,_,_,h3⟩
 |tok t xs=>
  rcases ho with⟨_,_,h⟩|⟨b',vs,T,cap,_,h2,h3,_⟩
  ·rw[h]at hb;simp at hb
  ·rw[h2]at hb;simp at hb;subst hb;exact⟨_,_,_,h3⟩
 |ext k t x=>
  simp only[plainO,bq]at hp;rcases hp with hp|hp
  ·have:=bz hp
   subst this;have hd:kD t x l S.w:=X.deep.1 ho;cases t with
   |slice e=>
    obtain⟨s,_,top,hs,_,⟨_,_,_,h⟩|⟨b',vs,T,cap,cs,_,h2,h3,_,_,_,h4⟩⟩:=hd
    ·rw[h]at hb;simp at hb
    ·rw[h2]at hb
     rcases ag.1 hb with rfl|hb
     ·exact⟨_,_,_,h3⟩
     ·obtain⟨c,hc,hcb⟩:=eg.1 hb
      simp at hcb;subst hcb;obtain⟨i,hi⟩:=List.getElem?_of_mem hc;obtain⟨_,vs',T',h5⟩:=h4.yH i b hi;exact⟨_,_,_,h5⟩
   |_=>exact hd.elim
  ·have:=bz hp
   subst this;obtain⟨rfl,b',p,v,h⟩:=X.On.1 ho;rw[h.bs]at hb;rcases ag.1 hb with rfl|hb
   ·exact⟨_,_,_,h.heap⟩
   ·rcases h.row.2 with⟨rfl,_⟩|⟨g,cap,cur,rfl,_,hg,_⟩
    ·simp[ft]at hb
    ·simp[ft]at hb;subst hb;exact⟨_,_,_,hg⟩
 |iter cs seen cl=>cases hp
def xG{S:bH}{W':World}{B:Nat}(g:Good eT X S)(hb:sd B S.w W')(hp:∀n oc,S.ob n=some oc->plainO oc=true)(hg:∀b∈X.DO,b<B):Good eT X {S with w:=W'} where
 obj n oc h:=⟨(g.obj n oc h).1,OR.l9 (S:=S) (S':={S with w:=W'}) rfl rfl rfl (fun b o v ha hc=>⟨hb.cell hc,ha⟩) (fun b hbm=>let⟨_,_,_,e⟩:=(g.obj n oc h).2.Qg (hp n oc h) b hbm;hb.cells b _ e rfl) (g.obj n oc h).2⟩
 apart:=g.apart
 out:=g.out
 kU:=⟨X.Bo g.kU.1 fun b hbm=>hb.below b (hg b hbm) (X.Gi g.kU.1 b hbm),g.kU.2⟩
def Dv{S0 S:bH}{W':World}{B:Nat}(t:Tr S0 S)(hb:sd B S.w W')(hB:S0.w.heap.size<=B):Tr S0 {S with w:=W'} where
 O:=t.O
 next:=t.next
 os:=hb.os.trans t.os
 output:=hb.output.trans t.output
 size:=b5 t.size hb.size
 own:=t.own
 cell b o v ha hc:=let⟨h1,h2⟩:=t.cell b o v ha hc;⟨hb.cell h1,h2⟩
 block b hlt ho:=(hb.below b (de hlt hB) (de hlt t.size)).trans (t.block b hlt ho)
 loc:=t.loc
 kind:=t.kind
def AX{S:bH}{W':World}{B:Nat}{env:List (Nat×SV)}{a:Act}(h:gw eT S env a)(hb:sd B S.w W'):gw eT {S with w:=W'} env a:=
 fun t sv ht=>dK.l9 (S:=S) (S':={S with w:=W'}) rfl rfl rfl (fun b o v ha hc=>⟨hb.cell hc,ha⟩) (h t sv ht)
def EV{S:bH}(g:Good eT X S)(hp:∀n oc,S.ob n=some oc->plainO oc=true){k:Nat}{o:Obj}(hk:S.w.heap[k]?=some o)(ho:o.isCells=false):¬S.owns k:=by
 rintro⟨n,oc,h1,h2⟩;obtain⟨vs,T,fz,e⟩:=(g.obj n oc h1).2.Qg (hp n oc h1) k h2;rw[hk]at e;cases e;cases ho
end
def vy:List Ob->List Nat->List Nat->Bool
 |o :: os,n0 :: ns0,n :: ns=>(match lf o o with|true=>bp n n0|false=>true)&&vy os ns0 ns
 |_,_,_=>true
def EW:∀{aM:List Ob} {ν0 ν:List Nat} {i n0 n:Nat} {o:Ob},vy aM ν0 ν=true->aM[i]?=some o->lf o o=true->ν0[i]?=some n0->ν[i]?=some n->n=n0
 |[],_,_,_,_,_,_,_,h,_,_,_=>by simp at h
 |_ :: _,[],_,_,_,_,_,_,_,_,h,_=>by simp at h
 |_ :: _,_ :: _,[],_,_,_,_,_,_,_,_,h=>by simp at h
 |a :: os,m0 :: ns0,m :: ns,0,n0,n,o,h,h1,h2,h3,h4=>by
  simp at h1 h3 h4;subst h1;subst h3;subst h4;simp only[vy,h2,af]at h;exact bz h.1
 |a :: os,m0 :: ns0,m :: ns,i+1,n0,n,o,h,h1,h2,h3,h4=>by
  simp only[vy,af]at h;exact EW h.2 (by simpa using h1) h2 (by simpa using h3) (by simpa using h4)
def Cw(an:jn)(ν0:List Nat)(st st':St)(more:an.X->Prop):VC:=
 match tU st' an with
 |some ν=>match nodupB ν&&(tV st' an ν an.refs&&vy an.aM ν0 ν),eC false st'.aF an.aM ν an.aM ν with
  |true,some y =>.leaf (GX (yi st' an y an.refs++iO an.aM y st'.aF an.aM ν++[∃x',an.inv x'/\more x'/\mf st' (an.bK x')/\mg st' (an.aF x'++iA st an.gP)/\(oW ν (pk an st x')=true/\y=an.pd x')]))
  |_,_ =>.ff
 |none =>.ff
def Cy{an:jn}{ν0:List Nat}{st st':St}{more:an.X->Prop}(h:(Cw an ν0 st st' more).holds):∃x,an.inv x/\more x/\∃ν,G4 an st st' x ν/\vy an.aM ν0 ν=true:=by
 unfold Cw at h;split at h
 ·rename_i ν _
  split at h
  ·rename_i y hc hy
   simp only[af]at hc;have hall:=uQ h;obtain⟨x,h1,h2,h3,h4,h5,h6⟩:=hall (∃x',an.inv x'/\more x'/\mf st' (an.bK x')/\mg st' (an.aF x'++iA st an.gP)/\(oW ν (pk an st x')=true/\y=an.pd x')) (ei _ (db.2 rfl));subst h6;obtain⟨k1,_⟩:=jh.1 hall;obtain⟨k1,k2⟩:=jh.1 k1;exact⟨x,h1,h2,ν,⟨hc.1,hc.2.1,hy,k1,k2,h3,h4,h5⟩,hc.2.2⟩
  ·exact h.elim
 ·exact h.elim
section
variable{X:Ext}{cx:Cx}
end
structure lG:Type 1 where
 inv:List Nat->Prop
 keep:List Nat
 gP:List Nat:=[]
 gQ:List Nat:=[]
 aM:List Ob:=[]
 refs:List (Nat×Nat):=[]
 pd:List Nat->PD aM:=fun _=>Ml aM
def lG.xH(r:lG):jn:={X:=List Nat,inv:=r.inv,cA:=fun _=>0,bK:=fun _=>[],keep:=r.keep,gP:=r.gP,aM:=r.aM,refs:=r.refs,pd:=r.pd}
def WG(r:lG)(ν0:List Nat)(st:St):List Nat:=mE r.aM r.aM ν0 st.next
def gF(r:lG)(ν0:List Nat)(st:St)(pre:List Nat):St:=eW r.xH st (WG r ν0 st) pre
def qO(r:lG)(ν0:List Nat)(st:St)(pre:List Nat):Bool:=pn r.xH st [] pre&&(oh (gF r ν0 st pre).aF&&(nodupB (WG r ν0 st)&&jW (st.next+r.aM.length) (WG r ν0 st)))
def eE{t:Ty}(xs:List (D t))(k i:Nat):List (D t):=(xs.drop (i*k)).take k
def fI(n k:Nat):Nat:=(n+k-1) / k
def kq(a:Option Addr)(n k i:Nat):Value:=.slice (a.map fun p=>{p with off:=p.off+i*k}) (min k (n-i*k)) (min k (n-i*k))
def yx(ps:List Tmp)(asg:Code):Option (Nat×Nat):=
 match ps,asg with
 |[p],.region _ ops false=>match ops.toList with
  |[o]=>match o.dst,o.op,o.guard with
   |some d,.assign (.tmp q),none=>match bp q p with
    |true=>some (p,d)
    |false=>none
   |_,_,_=>none
  |_=>none
 |_,_=>none
def UD(st:St)(r:lG):lG:={r with keep:=(BP st.env r.keep).filter (fun t=>qG [t] r.refs),gP:=match r.gP with
 |[]=>qF (r.gQ++(match tU st r.xH with|some l=>l|none=>[])) st.aF
 |l=>l}
@[reducible] def Lk:Ty:=.slice (.int .u8)
def Gf(an:lG)(ν0:List Nat)(st1:St)(bs:List (D (.int .u8)))(kN p d:Nat)(pre:List Nat)(i:Nat):St:=
 {gF an ν0 st1 pre with env:=(d,.s (.one (.d Lk (eE bs kN i)))) :: (p,.s (.one (.d Lk (eE bs kN i)))) :: (gF an ν0 st1 pre).env}
def rK(an:lG)(ν0:List Nat)(st1:St)(K:Ex->St->VC)(pre:List Nat)(i:Nat):Ex->St->VC:=fun e st'=>match e with
 |.normal=>Cw an.xH ν0 st1 {st' with env:=(gF an ν0 st1 pre).env} fun x=>x=pre++[i]
 |.ret=>match oh st'.aF with
  |true =>.imp (pre=ba i) (K .ret {st' with env:=(gF an ν0 st1 pre).env})
  |false =>.ff
 |.exit _ =>.ff
def UE(cx:Cx)(an:lG)(st1:St)(bs:List (D (.int .u8)))(k:Int)(p d:Nat)(body:Code)(K:Ex->St->VC):VC:=
 match tU st1 an.xH with
 |some ν0 =>.both (.leaf (1<=k/\k<=1000000000/\bs.length<=1000000000))
  (.both (Cw an.xH ν0 st1 st1 fun x=>x=[]) (.both (.all (List Nat) fun pre =>.imp (an.inv pre) (match qO an ν0 st1 pre with
    |true =>.all Nat fun i =>.imp (pre.length<fI bs.length k.toNat)
     (vc cx [] body 0 (Gf an ν0 st1 bs k.toNat p d pre i) (rK an ν0 st1 K pre i))
    |false =>.ff))
   (.imp (an.inv (ba (fI bs.length k.toNat))) (K .normal (gF an ν0 st1 (ba (fI bs.length k.toNat)))))))
 |none =>.ff
def Tf(cx:Cx)(it:FuncId)(r:St->lG)(g:Operand)(p d:Nat)(body:Code)(st:St)(K:Ex->St->VC):VC:=
 match dW st.env g with
 |.fn f [n1,n2]=>match bp f it&&!bp n1 n2,look st.aF n1,look st.aF n2 with
  |true,some (.cells _ [.d (.slice (.int .u8)) bs]),some (.cells _ [.d (.int .i64) k])=>
   UE cx (UD (aZ (aZ st n1) n2) (r (aZ (aZ st n1) n2))) (aZ (aZ st n1) n2) bs k p d body K
  |_,_,_ =>.ff
 |_ =>.ff
def um(P:Program)(it:FuncId):Prop:=
 ∀(b1 b2:Nat) (a:Option Addr) (len cap k:Nat) (w:World),1<=k->k<=1000000000->len<=1000000000->len<=cap->(0<len->∃b o,a=some ⟨b,o,none⟩)->b1<w.heap.size->b2<w.heap.size->w.cell? ⟨b1,0,none⟩=some (.slice a len cap)->w.cell? ⟨b2,0,none⟩=some (.int .i64 k)->
  SeqStopsK bd 2 P it #[.pointer (some ⟨b1,0,none⟩),.pointer (some ⟨b2,0,none⟩)] (fun i:Nat =>#[kq a len k i])
   (fun A B=>B.cell? ⟨b1,0,none⟩=A.cell? ⟨b1,0,none⟩/\B.cell? ⟨b2,0,none⟩=A.cell? ⟨b2,0,none⟩) (fun xs=>xs=ba (fI len k)) (fun pre=>∃j,pre=ba j) (fI len k) w
def rn{t:Ty}(xs:List (D t))(k i:Nat):(eE xs k i).length=min k (xs.length-i*k):=by simp[eE]
section
variable{eT:TypeId}{X:Ext}
def Tg{bs:List (D (.int .u8))}{A:aH}{w:World}{v:Value}(h:VR eT Lk bs A w v) :
  ∃a cap,v=.slice a bs.length cap/\bs.length<=cap/\(0<bs.length->∃b o,a=some ⟨b,o,none⟩)/\∀k i,VR eT Lk (eE bs k i) A w (kq a bs.length k i):=by
 obtain⟨v',e,hbig,h⟩:=h.one rfl;cases e;rcases h with⟨rfl,a,c,rfl⟩|⟨b,o,cap,rfl,hc,h⟩
 ·refine⟨a,c,rfl,ar _,fun h=>absurd h (Nat.lt_irrefl _),fun k i=>VR.cI rfl ⟨_,rfl,by simp[eE],.inl ⟨by simp[eE],a.map fun p=>{p with off:=p.off+i*k},0,by simp[kq]⟩⟩⟩
 ·refine⟨some ⟨b,o,none⟩,cap,rfl,hc,fun _=>⟨b,o,rfl⟩,fun k i=>VR.cI rfl ⟨_,rfl,by rw[rn];omega,.inr ⟨b,o+i*k,min k (bs.length-i*k),by rw[rn];rfl,by rw[rn];exact ak _,fun j y hj =>?_⟩⟩⟩
  have hj':bs[i*k+j]?=some y:=by
   unfold eE at hj;rw[List.getElem?_take]at hj;split at hj
   ·rwa [List.getElem?_drop]at hj
   ·cases hj
  obtain⟨us,h1,h2⟩:=h _ y hj';refine⟨us,h1,fun m u hm =>?_⟩;have:=h2 m u hm;rw[show o+i*k+j*(Ty.int dm).size+m=o+(i*k+j)*(Ty.int dm).size+m by simp[Ty.size];omega];exact this
end
section
variable{P:Program}{F:Fence}{n:Nat}
def Qh{K:Act->World->Prop}{id:Nat}{ops:Array Oper}{o:Oper}{d q:Nat}(ho:ops.toList=[o])(hd:o.dst=some d)(hop:o.op=.assign (.tmp q))(hg:o.guard=none){a:Act}{w:World}(hF:∀f,F.fn f)
  (h:K (a.put (some d) (a.eval (.tmp q))) w):(Code.region id ops false).wpIn F n P (Exit.then K (fun _ _ _=>False)) a w:=by
 refine wpIn_region_list ?_;rw[ho];unfold wpListIn;rw[if_pos (by simp[Region.wanted,hg])];refine⟨fun f _=>hF f,?_⟩;rw[fq _ _ _ (by simp[hop])];have e:(execOp a.eval o).run P w=.ok (.value (a.eval (.tmp q))) w:=by unfold execOp;rw[hop];rfl
 rw[e];simp only[cr,hd];exact h
end
def J8{ps:List Tmp}{asg:Code}{p d:Nat}(h:yx ps asg=some (p,d)):ps=[p]/\∃id ops o,asg=.region id ops false/\ops.toList=[o]/\o.dst=some d/\o.op=.assign (.tmp p)/\o.guard=none:=by
 unfold yx at h;split at h
 ·split at h
  ·split at h
   ·split at h
    ·cases h
     rename_i hb _;have:=bz hb;subst this;exact⟨rfl,_,_,_,rfl,by assumption,by assumption,by assumption,by assumption⟩
    ·cases h
   ·cases h
  ·cases h
 ·cases h
def Nx(D:Nat):Deferred:={target:=.collected D,args:=#[]}
def yy{a:Act}(h:a.defers=[]):mo [] a=a:=by cases a;simp only at h;subst h;rfl
section
variable{X:Ext}{P:Program}{cx:Cx}
structure Ny (cx:Cx) (X:Ext) (O:aH) (K:St->VC) (S:bH) (a a':Act) (w':World) (D:Nat) (st':St) (loc':Nat->Loc):Prop where
 act:a'=mo [Nx D] a
 vc:(K st').holds
 fV:Good cx.eT X (aA O st' loc' w')
 tr:Tr S (aA O st' loc' w')
 env:gw cx.eT (aA O st' loc' w') st'.env a
 Xy:S.w.heap.size<=D
 mark:w'.heap[D]?=some (.deferred (some []))
 plain:oh st'.aF=true
def QR(cx:Cx)(X:Ext)(O:aH)(K:Ex->St->VC)(S:bH)(a:Act):Exit->Act->World->Prop
 |.normal,a',w'=>∃D st' loc',Ny cx X O (K .normal) S a a' w' D st' loc'
 |.ret,a',w'=>∃D st' loc',Ny cx X O (K .ret) S a a' w' D st' loc'
 |_,_,_=>False
def pI{st:St}:∀{l:List Nat} {n:Nat} {v:SV},n∈l->look st.env n=some v->look (nA st l) n=some v
 |[],_,_,h,_=>by simp at h
 |t :: r,n,v,h,hv=>by
  simp only[nA];by_cases e:t=n
  ·subst e
   rw[hv];simp only[cE,if_true]
  ·have hn:n∈r:=(ag.1 h).resolve_left fun h=>e h.symm
   cases look st.env t with
   |none=>exact pI hn hv
   |some u=>simp only[cE,if_neg e];exact pI hn hv
def Th{an:jn}{st:St}{us:List Nat}{x:an.X}(hs:an.bK x=[])(hnr:qG an.keep an.refs=true){n:Nat}(hn:n∈an.keep){v:SV}(h:look st.env n=some v):look (eW an st us x).env n=some v:=by
 simp only[eW,yj,eL,hs];split
 ·rename_i u hu
  obtain⟨k,hk,_⟩:=qk hu;exact absurd hn (uX hnr hk)
 ·simp only[look]
  exact pI hn h
def Cz{O:aH}{an:lG}{ν0:List Nat}{st1 st':St}{loc loc':Nat->Loc}{w W:World}{a:Act}{pre:List Nat}(g:Good cx.eT X (aA O st' loc' W))(hsz:a.tmps.size=cx.N)(hdf:a.defers=[])(henv:gw cx.eT (aA O st' loc' W) st'.env a)
  (ht:Tr (aA O st1 loc w) (aA O st' loc' W))(hkeep:∀n∈an.keep,∀v,look st1.env n=some v->∃u,look st'.env n=some u/\n5 u v)(hf:∃ν,G4 an.xH st1 st' pre ν/\vy an.aM ν0 ν=true)(hB:qO an ν0 st1 pre=true) :
  ∃loc2,Good cx.eT X (aA O (gF an ν0 st1 pre) loc2 W)/\gw cx.eT (aA O (gF an ν0 st1 pre) loc2 W) (gF an ν0 st1 pre).env a/\Tr (aA O st1 loc w) (aA O (gF an ν0 st1 pre) loc2 W):=by
 simp only[qO,af]at hB;obtain⟨h1,_,h3,h4⟩:=hB;obtain⟨ν,hf,hk⟩:=hf;obtain⟨loc2,m1,m2,m3⟩:=D8 (an:=an.xH) (st:=st1) (st':=st') (O:=O) (loc:=loc') (w:=W) (loc0:=loc) (w0:=w) (a:=a) (W:=[]) (ν:=ν) pre h3 pZ (fun n hn=>qW h4 hn)
  (fun i m hi=>by
   rcases qI hi with⟨o,o',k1,k2,k3,k4⟩|k
   ·rw[k1]at k2;cases k2
    refine .inr ⟨?_,o,k1,k3⟩;have hl:i<ν.length:=by rw[<-pj hf.get];exact bF k1
    rw[List.getElem?_eq_getElem hl];exact congrArg some (EW hk k1 k3 k4 (List.getElem?_eq_getElem hl))
   ·exact .inl k) g ⟨hsz,hdf,henv⟩ ht h1 hkeep hf
 exact⟨loc2,m1,m2.env,m3⟩
def Ti(hok:ln P cx X){it:FuncId}(hit:um P it)(heg:∀args w,(callFunc it args).run P w=.ok (.enter it args) w){O:aH}{st:St}{loc:Nat->Loc}{w:World}{a:Act}{K:Ex->St->VC}{g:Operand}{ps:Array Tmp}{asg body:Code}{p d:Nat}
  (r:St->lG)(hsh:yx ps.toList asg=some (p,d))(hsb:kA body=true)(hpN:p<cx.N)(qP:d<cx.N)(hA:fM cx (aA O st loc w) st a)(gd:Good cx.eT X (aA O st loc w))(hO:eR O w)
  (h:(Tf cx it r g p d body st K).holds):(Code.rangeFunc g ps asg body).wpIn bd 3 P (QR cx X O K (aA O st loc w) a) a w:=by
 obtain⟨hps,id,ops,o,rfl,hops,hdst,hop,hgd⟩:=J8 hsh;unfold Tf at h;split at h
 case h_2=>exact h.elim
 rename_i f n1 n2 hev;split at h
 case h_2=>exact h.elim
 rename_i T1 bs T2 k hb h1 h2;simp only[af,cf]at hb;have hf:=bz hb.1;subst hf;have hne:n1≠n2:=fun e=>by have h3:=hb.2;subst e;rw[Nat.beq_refl]at h3;cases h3
 obtain⟨st1,hst1⟩:∃s,s=aZ (aZ st n1) n2:=⟨_,rfl⟩
 rw[<-hst1]at h;generalize UD st1 (r st1)=an at h;unfold UE at h;split at h
 case h_2=>exact h.elim
 rename_i ν0 _;obtain⟨⟨hk1,hk2,hlen⟩,hfit,hbd,hend⟩:=h;obtain⟨x0,hinv0,hx0,hf0⟩:=Cy hfit;subst hx0;obtain⟨kN,hkN⟩:∃kN:Nat,kN=cc k:=⟨_,rfl⟩
 have hkk:(k:Int)=(kN:Int):=by rw[hkN];exact(eu (b7 (by decide) hk1)).symm
 rw[<-hkN]at hbd hend;have hHB:∀pre,an.inv pre->qO an ν0 st1 pre=true/\∀i,pre.length<fI bs.length kN->(vc cx [] body 0 (Gf an ν0 st1 bs kN p d pre i) (rK an ν0 st1 K pre i)).holds:=by
  intro pre hp;have:=hbd pre hp;split at this
  ·rename_i e;exact⟨e,fun i hi=>this i hi⟩
  ·exact this.elim
 have hx:=bM hA.env g;rw[hev]at hx;obtain⟨hgv,hcap⟩:=hx;obtain⟨b1,vs1,hl1,hbs1,hheap1,hc1⟩:=(gd.obj n1 _ h1).2;obtain⟨b2,vs2,hl2,hbs2,hheap2,hc2⟩:=(gd.obj n2 _ h2).2;cases hc1 with
 |cons hv1 _ hr1=>
 cases hr1;cases hc2 with
 |cons hv2 _ hr2=>
 cases hr2;rename_i v1 _ v2 _;obtain⟨a0,cap,rfl,hcap1,hsome,hpart⟩:=Tg hv1;obtain⟨rfl,_⟩:=cQ.1 hv2;have hb1:b1<w.heap.size:=(Array.getElem?_eq_some_iff.1 hheap1).1;have hb2:b2<w.heap.size:=(Array.getElem?_eq_some_iff.1 hheap2).1;have hcell1:w.cell? ⟨b1,0,none⟩=some (.slice a0 bs.length cap):=by rw[cell_of_row w b1 _ _ _ (0,0) hheap1];rfl
 have hcell2:w.cell? ⟨b2,0,none⟩=some (.int .i64 kN):=by rw[cell_of_row w b2 _ _ _ (0,0) hheap2,<-hkk];rfl
 obtain⟨tr1,g1⟩:=mQ (cx:=cx) gd n1;obtain⟨tr2,g2⟩:=mQ (cx:=cx) g1 n2;rw[<-hst1]at tr2 g2;have trS:=tr1.trans tr2;have hlook:∀n oc,look st1.aF n=some oc->n≠n1/\n≠n2/\look st.aF n=some oc:=by
  intro n oc hn;rw[hst1]at hn;simp only[aZ,lR]at hn;split at hn
  ·cases hn
  ·split at hn
   ·cases hn
   ·rename_i e1 e2;exact⟨fun e=>e2 e.symm,fun e=>e1 e.symm,hn⟩
 have hno1:∀{loc' W pre},Tr (aA O st1 loc w) (aA O (gF an ν0 st1 pre) loc' W)->¬(aA O (gF an ν0 st1 pre) loc' W).owns b1:=by
  intro loc' W pre t ho;rcases t.own b1 ho with⟨n,oc,k1,k2⟩|k
  ·obtain⟨e1,_,k3⟩:=hlook n oc k1
   exact e1 (gd.apart n n1 oc _ b1 k3 h1 k2 (by show b1∈((aA O st loc w).loc n1).bs;rw[hbs1];simp))
  ·exact absurd hb1 (bc.2 k)
 have hno2:∀{loc' W pre},Tr (aA O st1 loc w) (aA O (gF an ν0 st1 pre) loc' W)->¬(aA O (gF an ν0 st1 pre) loc' W).owns b2:=by
  intro loc' W pre t ho;rcases t.own b2 ho with⟨n,oc,k1,k2⟩|k
  ·obtain⟨_,e1,k3⟩:=hlook n oc k1
   exact e1 (gd.apart n n2 oc _ b2 k3 h2 k2 (by show b2∈((aA O st loc w).loc n2).bs;rw[hbs2];simp))
  ·exact absurd hb2 (bc.2 k)
 have hgbs:∀b∈X.DO,b<w.heap.size:=fun b hb=>X.Gi gd.kU.1 b hb
 have hpartW:∀{loc' W pre} (_:Tr (aA O st1 loc w) (aA O (gF an ν0 st1 pre) loc' W)) i,VR cx.eT Lk (eE bs kN i) (aA O (gF an ν0 st1 pre) loc' W).A W (kq a0 bs.length kN i):=fun t i=>
  VR.frame (hpart kN i) (trS.trans t).cell
 have hv0:mo [] a=a:=yy hA.defers;have hplainH:∀{pre},qO an ν0 st1 pre=true->oh (gF an ν0 st1 pre).aF=true:=fun hB=>by simp only[qO,af]at hB;exact hB.2.1
 have hO1:∀{W:World},w.heap.size<=W.heap.size->eR O W:=fun hs=>hO.tr hs
 refine wpIn_rangeFunc_ownG (F:=bd) (n:=3) rfl (by decide) (gf:=f) (lb:=#[.pointer (some ⟨b1,0,none⟩),.pointer (some ⟨b2,0,none⟩)]) (by rw[hgv];simp only[List.map];rw[hl1,hl2]) trivial heg
  (hit b1 b2 a0 bs.length cap kN w (dc.1 (by rw[<-hkk];exact hk1)) (dc.1 (by rw[<-hkk];exact hk2)) hlen hcap1 hsome hb1 hb2 hcell1 hcell2)
  (fun h k=>⟨k.1.trans h.1,k.2.trans h.2⟩)
  (fun W l o o' hl ho hc _=>⟨World.cell?_of_block (fu (by simp only;omega)),World.cell?_of_block (fu (by simp only;omega))⟩)
  (fw _ _) (fun x=>by rw[<-Array.length_toList (xs:=ps),hps];rfl)
  (fun pre W=>∃loc',an.inv pre/\qO an ν0 st1 pre=true/\Good cx.eT X (aA O (gF an ν0 st1 pre) loc' W)/\gw cx.eT (aA O (gF an ν0 st1 pre) loc' W) (gF an ν0 st1 pre).env a/\Tr (aA O st1 loc w) (aA O (gF an ν0 st1 pre) loc' W))
  (fun c pre W=>c=.ret/\∃st' loc',((∃j,pre=ba j)->(K .ret st').holds)/\oh st'.aF=true/\Good cx.eT X (aA O st' loc' W)/\gw cx.eT (aA O st' loc' W) st'.env a/\Tr (aA O st1 loc w) (aA O st' loc' W))
  ?_ ?_ ?_ (fun x=>(a.put (some p) (kq a0 bs.length kN x)).put (some d) (kq a0 bs.length kN x)) ?_ ?_ ?_ ?_
 ·rintro pre A B row ⟨loc',hi,hB,g',he',t'⟩ hg hr
  have bk:=sd.of hg hr;exact⟨loc',hi,hB,xG g' bk (fun n oc hn=>mA (hplainH hB) hn) hgbs,AX he' bk,Dv t' bk (ak _)⟩
 ·rintro c pre A B row ⟨rfl,st',loc',hk,hpl,g',he',t'⟩ hg hr
  have bk:=sd.of hg hr;exact⟨rfl,st',loc',hk,hpl,xG g' bk (fun n oc hn=>mA hpl hn) hgbs,AX he' bk,Dv t' bk (ak _)⟩
 ·have hB:=(hHB [] hinv0).1
  obtain⟨loc2,m1,m2,m3⟩:=Cz (an:=an) (pre:=[]) g2 hA.size hA.defers (fun n v hv=>by
   rw[hst1]at hv;exact(hA.env n v hv).tr trS) (Tr.refl _) (fun n _ v hv=>⟨v,hv,jX v⟩) hf0 hB
  exact⟨loc2,hinv0,hB,m1,m2,m3⟩
 ·intro l x W K' hK'
  refine Qh hops hdst hop hgd (fun _=>trivial) ?_;have e:({tmps:=(ps.zip #[kq a0 bs.length kN x]).foldl (fun t (p,v)=>t.setIfInBounds p v) a.tmps,defers:=[]}:Act)=a.put (some p) (kq a0 bs.length kN x):=by
   have:ps= #[p]:=by rw[<-fv (xs:=ps),hps]
   rw[this];refine Eq.trans ?_ (congrArg (fun z:Act=>z.put (some p) (kq a0 bs.length kN x)) hv0);rw[show(#[p]:Array Tmp).zip #[kq a0 bs.length kN x]= #[(p,kq a0 bs.length kN x)] by simp[Array.zip]];rfl
  rw[e];have e2:(a.put (some p) (kq a0 bs.length kN x)).eval (.tmp p)=kq a0 bs.length kN x:=by
   have hp':p<a.tmps.size:=by rw[hA.size];exact hpN
   simp[Act.put,Act.eval,eh,hp']
  rw[e2];exact hK'
 ·rintro l pre x W ⟨loc',hi,hB,g',he',t'⟩ hlt
  have hvc:=(hHB pre hi).2 x hlt;have hpv:=hpartW t' x;have hA1:fM cx (aA O (gF an ν0 st1 pre) loc' W) {gF an ν0 st1 pre with env:=(p,.s (.one (.d Lk (eE bs kN x)))) :: (gF an ν0 st1 pre).env} (a.put (some p) (kq a0 bs.length kN x)):=
   fM.put (st:=gF an ν0 st1 pre) ⟨hA.size,hA.defers,he'⟩ (Tr.refl _) rfl hpN hpv
  have hA2:fM cx (aA O (gF an ν0 st1 pre) loc' W) (Gf an ν0 st1 bs kN p d pre x) ((a.put (some p) (kq a0 bs.length kN x)).put (some d) (kq a0 bs.length kN x)):=
   fM.put hA1 (Tr.refl _) rfl qP hpv
  have hrun:=xF (n:=3-1-1) (st:=Gf an ν0 st1 bs kN p d pre x) hok (F:=bd.inRound l) (.inr ⟨l,rfl⟩) [] body 0 hsb hA2 g' (hO1 t'.size) hvc;rw[yy hA2.defers]at hrun;refine wpIn_mono hrun ?_;rintro e a2 W2 ⟨a',rfl,_,hq⟩;have keeps:∀{st2 loc2},Tr (aA O (gF an ν0 st1 pre) loc' W) (aA O st2 loc2 W2)->KeepsFrom w.heap.size W W2:=fun k3=>
   ⟨k3.size,fun k o hk hko ho=>(k3.block k (Array.getElem?_eq_some_iff.1 hko).1 (EV g' (fun n oc hn=>mA (hplainH hB) hn) hko ho)).trans hko⟩
  cases e with
  |normal=>
   obtain⟨st2,loc2,k1,k2,k3,k4,k5⟩:=hq;obtain⟨x1,i2,hx1,hf1⟩:=Cy k1;subst hx1;have hB2:=(hHB _ i2).1;have hnr:qG an.xH.keep an.xH.refs=true:=by simp only[qO,pn,af]at hB;exact hB.1.2.2.2
   obtain⟨loc2,m1,m2,m3⟩:=Cz (an:=an) (st':={st2 with env:=(gF an ν0 st1 pre).env}) (pre:=pre++[x]) k2 hA.size hA.defers (he'.tr k3) (t'.trans k3) (fun n hn v hv=>⟨v,Th (an:=an.xH) rfl hnr hn hv,jX v⟩) hf1 hB2;exact⟨keeps k3,⟨World.cell?_of_block (k3.block b1 (de hb1 t'.size) (hno1 t')),World.cell?_of_block (k3.block b2 (de hb2 t'.size) (hno2 t'))⟩,loc2,i2,hB2,m1,m2,m3⟩
  |ret=>
   obtain⟨st2,loc2,k1,k2,k3,k4,k5⟩:=hq;simp only[rK]at k1;split at k1
   ·rename_i hpl
    exact⟨keeps k3,rfl,_,loc2,fun⟨j,hj⟩=>k1 (by
     cases j with
     |zero=>simp at hj
     |succ j=>
      rw[cq]at hj;obtain⟨e1,e2⟩:=List.append_inj' hj rfl;simp at e2;rw[e2];exact e1),hpl,k2,he'.tr k3,t'.trans k3⟩
   ·exact k1.elim
  |exit i=>obtain⟨_,_,k1,_⟩:=hq;exact k1.elim
  |goto l=>exact hq.elim
  |panic c=>exact hq.elim
  |outgrown=>exact hq.elim
 ·rintro D xs W hD rfl ⟨loc',hi,hB,g',he',t'⟩ hm
  refine⟨D,_,loc',⟨?_,hend hi,g',trS.trans t',he',hD,hm,hplainH hB⟩⟩;rw[hA.defers];rfl
 ·rintro D c pre W hD hsp ⟨rfl,st',loc',hk,hpl,g',he',t'⟩ hm
  refine wpIn_ret ⟨D,st',loc',⟨?_,hk hsp,g',trS.trans t',he',hD,hm,hpl⟩⟩;rw[hA.defers];rfl
end
def Ll(cx:Cx)(it:FuncId)(ra:List (Nat×(St->lG))):Code->St->(Ex->St->VC)->VC
 |.seq a b,st,K=>match kA b with
  |true=>Ll cx it ra a st fun e st'=>match e with
   |.normal=>vc cx [] b 0 st' K
   |e=>K e st'
  |false=>match kA a with
   |true=>vc cx [] a 0 st fun e st'=>match e with
    |.normal=>Ll cx it ra b st' K
    |e=>K e st'
   |false =>.ff
 |.block id (.rangeFunc g ps asg body),st,K=>match yx ps.toList asg,look ra id with
  |some (p,d),some r=>match Nat.blt p cx.N&&(Nat.blt d cx.N&&kA body)with
   |true=>Tf cx it r g p d body st K
   |false =>.ff
  |_,_ =>.ff
 |_,_,_ =>.ff
def UF(cx:Cx)(it:FuncId)(ra:List (Nat×(St->lG)))(res:List ResultVar)(c:Code)(st:St)(K:List cO->St->VC):VC:=
 Ll cx it ra c st fun e st'=>match e with
  |.exit _ =>.ff
  |_=>match oh st'.aF with
   |true=>ql cx st' res fun vs=>K vs st'
   |false =>.ff
def Xt:Exit->Option Ex
 |.normal=>some .normal
 |.exit n=>some (.exit n)
 |.ret=>some .ret
 |_=>none
def uo(B:Nat)(S:bH)(ds:List Deferred):Prop:=ds=[]\/∃D,ds=[Nx D]/\B<=D/\S.w.heap[D]?=some (.deferred (some []))/\¬S.owns D
section
variable{X:Ext}{P:Program}{cx:Cx}
def uo.tr{B:Nat}{S S':bH}{ds:List Deferred}(h:uo B S ds)(t:Tr S S'):uo B S' ds:=by
 rcases h with h|⟨D,h1,h2,h3,h4⟩
 ·exact .inl h
 ·have hlt:D<S.w.heap.size:=(Array.getElem?_eq_some_iff.1 h3).1
  exact .inr ⟨D,h1,h2,(t.block D hlt h4).trans h3,fun ho=>(t.own D ho).elim h4 fun h=>absurd hlt (bc.2 h)⟩
structure Tj (cx:Cx) (X:Ext) (O:aH) (K:St->VC) (S:bH) (a':Act) (w':World) (ds:List Deferred) (a2:Act) (st':St) (loc':Nat->Loc):Prop where
 act:a'=mo ds a2
 rel:fM cx (aA O st' loc' w') st' a2
 vc:(K st').holds
 fV:Good cx.eT X (aA O st' loc' w')
 tr:Tr S (aA O st' loc' w')
 marks:uo S.w.heap.size (aA O st' loc' w') ds
def QE(cx:Cx)(X:Ext)(O:aH)(K:Ex->St->VC)(S:bH):Exit->Act->World->Prop:=fun e a' w'=>∃x,Xt e=some x/\∃ds a2 st' loc',Tj cx X O (K x) S a' w' ds a2 st' loc'
def Nz{O:aH}{K:Ex->St->VC}{W:List Nat}{st1:St}{S0 S1:bH}{ds:List Deferred}(t:Tr S0 S1)(hm:uo S0.w.heap.size S1 ds){e:Exit}{a:Act}{w:World}(h:zX ds (jv cx X O K W st1 S1) e a w):QE cx X O K S0 e a w:=by
 obtain⟨a',rfl,hb,hq⟩:=h;cases e with
 |normal=>obtain⟨st',loc',k1,k2,k3,k4,_⟩:=hq;exact⟨_,rfl,ds,a',st',loc',rfl,k4,k1,k2,t.trans k3,hm.tr k3⟩
 |exit i=>obtain⟨st',loc',k1,k2,k3,k4,_⟩:=hq;exact⟨_,rfl,ds,a',st',loc',rfl,k4,k1,k2,t.trans k3,hm.tr k3⟩
 |ret=>obtain⟨st',loc',k1,k2,k3,k4,_⟩:=hq;exact⟨_,rfl,ds,a',st',loc',rfl,k4,k1,k2,t.trans k3,hm.tr k3⟩
 |goto l=>exact hq.elim
 |panic c=>exact hq.elim
 |outgrown=>exact hq.elim
def QE.mono{O:aH}{K:Ex->St->VC}{S0 S1:bH}(t:Tr S0 S1){e:Exit}{a:Act}{w:World}(h:QE cx X O K S1 e a w):QE cx X O K S0 e a w:=by
 obtain⟨x,hx,ds,a2,st',loc',q⟩:=h;refine⟨x,hx,ds,a2,st',loc',q.act,q.rel,q.vc,q.fV,t.trans q.tr,?_⟩;rcases q.marks with h|⟨D,h1,h2,h3⟩
 ·exact .inl h
 ·exact .inr ⟨D,h1,b5 t.size h2,h3⟩
def Qi(hok:ln P cx X){it:FuncId}(hit:um P it)(heg:∀args w,(callFunc it args).run P w=.ok (.enter it args) w){O:aH}(ra:List (Nat×(St->lG))):∀(c:Code) {st:St} {loc:Nat->Loc} {w:World} {a:Act} {K:Ex->St->VC},
  fM cx (aA O st loc w) st a->Good cx.eT X (aA O st loc w)->eR O w->(Ll cx it ra c st K).holds->c.wpIn bd 3 P (QE cx X O K (aA O st loc w)) a w:=by
 intro c;induction c with
 |seq c1 c2 ih1 ih2=>
  intro st loc w a K hA g hO h;simp only[Ll]at h;split at h
  ·rename_i hs2
   refine wpIn_seq (wpIn_mono (ih1 hA g hO h) ?_);rintro e a1 w1 ⟨x,hx,ds,a2,st',loc',q⟩;cases e with
   |normal=>
    cases hx;obtain⟨rfl,q2,q3,q4,q5,q6⟩:=q;exact wpIn_mono (xF (n:=3) hok (F:=bd) (.inl rfl) ds c2 0 hs2 q2 q4 (hO.tr q5.size) q3) fun e a w hq=>Nz q5 q6 hq
   |exit i=>cases hx;exact⟨_,rfl,ds,a2,st',loc',q⟩
   |ret=>cases hx;exact⟨_,rfl,ds,a2,st',loc',q⟩
   |goto l=>cases hx
   |panic c=>cases hx
   |outgrown=>cases hx
  ·split at h
   ·rename_i hs1
    have hr:=xF (n:=3) hok (F:=bd) (.inl rfl) [] c1 0 hs1 hA g hO h;rw[yy hA.defers]at hr;refine wpIn_seq (wpIn_mono hr ?_);rintro e a1 w1 hq;cases e with
    |normal=>
     obtain⟨a',rfl,hb,st',loc',k1,k2,k3,k4,_⟩:=hq;show c2.wpIn _ _ _ _ (mo [] a') w1;rw[yy hb];exact wpIn_mono (ih2 k4 k2 (hO.tr k3.size) k1) fun e a w hq=>hq.mono k3
    |exit i=>exact Nz (K:=K) (Tr.refl _) (.inl rfl) hq
    |ret=>exact Nz (K:=K) (Tr.refl _) (.inl rfl) hq
    |goto l=>exact hq.choose_spec.2.2.elim
    |panic c=>exact hq.choose_spec.2.2.elim
    |outgrown=>exact hq.choose_spec.2.2.elim
   ·exact h.elim
 |block id b ih=>
  intro st loc w a K hA g hO h;cases b with
  |rangeFunc gf ps asg body=>
   simp only[Ll]at h;split at h
   ·rename_i p d r hsh _
    split at h
    ·rename_i hb
     simp only[af]at hb;refine wpIn_block (wpIn_mono (Ti hok hit heg r hsh hb.2.2 (mc hb.1) (mc hb.2.1) hA g hO h) ?_);have fin:∀{x:Ex} {a':Act} {w':World},(∃D st' loc',Ny cx X O (K x) (aA O st loc w) a a' w' D st' loc')->∃ds a2 st' loc',Tj cx X O (K x) (aA O st loc w) a' w' ds a2 st' loc':=by
      rintro x a' w' ⟨D,st',loc',q⟩;exact⟨[Nx D],a,st',loc',q.act,⟨hA.size,hA.defers,q.env⟩,q.vc,q.fV,q.tr,.inr ⟨D,rfl,q.Xy,q.mark,EV q.fV (fun n oc hn=>mA q.plain hn) q.mark rfl⟩⟩
     intro e a' w' hq;cases e with
     |normal=>exact⟨_,rfl,fin hq⟩
     |ret=>exact⟨_,rfl,fin hq⟩
     |exit i=>exact hq.elim
     |goto l=>exact hq.elim
     |panic c=>exact hq.elim
     |outgrown=>exact hq.elim
    ·exact h.elim
   ·exact h.elim
  |_=>exact h.elim
 |_=>intro st loc w a K hA g hO h;exact h.elim
def Qj(hok:TyOK P cx){O:aH}{st:St}{loc:Nat->Loc}{w:World}{a:Act}(g:Good cx.eT X (aA O st loc w))(he:gw cx.eT (aA O st loc w) st.env a){fn:Func}{K:List cO->VC}(h:(ql cx st fn.results.toList K).holds) :
  ∃vs us,(K vs).holds/\cP cx.eT (aA O st loc w) vs us/\(results fn a.tmps).run P w=.ok (uZ us) w:=by
 obtain⟨vs,us,m1,m2,m3⟩:=yW (P:=P) hok g he h;refine⟨vs,us,m1,m2,?_⟩;have hm:(fn.results.mapM (rW a.tmps):Sem (Array Value)).run P w=.ok us.toArray w:=by
  rw[<-fv (xs:=fn.results),List.mapM_toArray,Sem.run_map,m3];rfl
 have he:results fn a.tmps=(do
   let xs <-fn.results.mapM (rW a.tmps)
   return if h:xs.size=1 then xs[0]else .tuple xs):=by
  unfold results;congr 1
 rw[he,Sem.run_bind,hm];simp only[eo,Sem.run_pure]
 match us with
 |[]=>rfl
 |[u]=>rfl
 |_ :: _ :: _=>rfl
def Ie(hok:ln P cx X){it:FuncId}(hit:um P it)(heg:∀args w,(callFunc it args).run P w=.ok (.enter it args) w){f:FuncId}{fn:Func}{c:Code}(hf:P.funcs[f]?=some fn)(hb:fn.body=some c)(hN:cx.N=fn.ntmps)(ra:List (Nat×(St->lG))){O:aH}{st:St}{loc:Nat->Loc}{w:World}
  {args:Array Value}{K:List cO->St->VC}(hsz:args.size<=fn.ntmps)(g:Good cx.eT X (aA O st loc w))(hO:eR O w)
  (henv:∀t sv,look st.env t=some sv->∃v,args[t]?=some v/\dK cx.eT (aA O st loc w) sv v)
  (h:(UF cx it ra fn.results.toList c st K).holds) :
  Calls P f args w fun e w'=>∃vs us st' loc',e=.returned (uZ us)/\(K vs st').holds/\cP cx.eT (aA O st' loc' w') vs us/\Good cx.eT X (aA O st' loc' w')/\Tr (aA O st loc w) (aA O st' loc' w'):=by
 refine callsIn_wide.1 (callsIn_of_wp_marks (n:=3) hf hb trivial ?_);have hA:fM cx (aA O st loc w) st {tmps:=args++Array.replicate (fn.ntmps-args.size) undef,defers:=[]}:=by
  refine⟨by simp[hN];omega,rfl,fun t sv ht =>?_⟩;obtain⟨v,hv,hr⟩:=henv t sv ht;have hlt:t<args.size:=by
   rcases bg t args.size with hh|hh
   ·exact hh
   ·rw[Array.getElem?_eq_none hh]at hv;cases hv
  rw[eh,Array.getElem?_append,if_pos hlt,hv];exact hr
 refine wpIn_mono (Qi hok hit heg ra c hA g hO h) ?_;have fin:∀{a':Act} {w':World} {ds:List Deferred} {a2:Act} {st':St} {loc':Nat->Loc},Tj cx X O (fun st'=>match oh st'.aF with
   |true=>ql cx st' fn.results.toList fun vs=>K vs st'
   |false =>.ff) (aA O st loc w) a' w' ds a2 st' loc'->
   LeavesInM bd 3 P fn a'.tmps (fun e w'=>∃vs us st' loc',e=.returned (uZ us)/\(K vs st').holds/\cP cx.eT (aA O st' loc' w') vs us/\Good cx.eT X (aA O st' loc' w')/\Tr (aA O st loc w) (aA O st' loc' w')) a'.defers .returning w':=by
  rintro a' w' ds a2 st' loc' ⟨rfl,q2,q3,q4,q5,q6⟩;split at q3
  case h_2=>exact q3.elim
  rename_i hpl;rcases q6 with rfl|⟨D,rfl,k1,k2,k3⟩
  ·obtain⟨vs,us,m1,m2,m3⟩:=Qj hok.toTyOK q4 q2.env q3
   exact⟨_,m3,vs,us,st',loc',rfl,m1,m2,q4,q5⟩
  ·have bk:sd w.heap.size w' (w'.putObj D (.deferred none)):=sd.of (grownBy_putObj' w' D _) (fun r e=>by cases e;exact⟨k1,_,k2,rfl⟩)
   have g':Good cx.eT X (aA O st' loc' (w'.putObj D (.deferred none))):=xG q4 bk (fun n oc hn=>mA hpl hn) (fun b hb=>X.Gi g.kU.1 b hb);have t':Tr (aA O st loc w) (aA O st' loc' (w'.putObj D (.deferred none))):=Dv q5 bk (ak _);have e':gw cx.eT (aA O st' loc' (w'.putObj D (.deferred none))) st'.env a2:=AX q2.env bk;obtain⟨vs,us,m1,m2,m3⟩:=Qj hok.toTyOK g' e' q3;refine⟨by simp,.inl ⟨D,_,rfl,run_takeDeferred k2,?_⟩⟩;exact⟨_,m3,vs,us,st',loc',rfl,m1,m2,g',t'⟩
 rintro e a' w' ⟨x,hx,ds,a2,st',loc',q⟩;cases e with
 |normal=>cases hx;exact fin q
 |ret=>cases hx;exact fin q
 |exit i=>cases hx;exact q.vc.elim
 |goto l=>cases hx
 |panic c=>cases hx
 |outgrown=>cases hx
variable{aM:List Ob}{args:List Cl}
def Dw(B:Cx)(Γ:List (FuncId×(Bool×aT)))(it:FuncId)(fn:Func)(ra:List (Nat×(St->lG)))(aM:List Ob)(args:List Cl)(alts:List (Alt aM args))(a:CD args)(x:PD aM):VC:=
 UF (qV B Γ fn.ntmps) it ra fn.results.toList (codeOf fn) (kz aM args a x) fun vs st'=>sL a x vs st' alts
def Dx{B:Cx}{Γ:List (FuncId×(Bool×aT))}(hok:bO P B X Γ){it:FuncId}(hit:um P it){fi:Func}(hfi:P.funcs[it]?=some fi)(hgi:po fi 3=true){f:FuncId}{fn:Func}(hf:P.funcs[f]?=some fn)(hg:po fn args.length=true)(ra:CD args->PD aM->List (Nat×(St->lG)))
  {pre:CD args->PD aM->Prop}{alts:List (Alt aM args)}(h:∀a x,gH args a->pre a x->(Dw B Γ it fn (ra a x) aM args alts a x).holds) :
  bX P B.eT X f false (aU aM args pre alts):=by
 simp only[po,af,cf]at hg hgi;obtain⟨⟨h1,h2⟩,h3⟩:=hg;obtain⟨c,hc⟩:=dj.1 h1;have heg:∀args w,(callFunc it args).run P w=.ok (.enter it args) w:=fun args w=>wA hfi (by obtain⟨ci,hci⟩:=dj.1 hgi.1.1;rw[hci];rfl) hgi.1.2 args w
 refine⟨⟨fn,hf,by rw[hc];rfl,h2⟩,fun O st loc w asg vs K hK g hO ha =>?_⟩;unfold aU at hK;obtain⟨t1,g1,e1,k1⟩:=u7 args asg g;simp only at hK;split at hK
 case h_2=>exact hK.elim
 rename_i ν hν;split at hK
 case h_2=>exact hK.elim
 rename_i a x hnd hga hx;obtain⟨hp,hpre,hK⟩:=Ay hK;obtain⟨hp1,hp2⟩:=jh.1 hp;refine(Ej (f:=f) (B:=B) (pre:=pre) g1 hO (k1 vs ha) hnd hga hx hp1 hp2 hpre hK fun hwf O' loc0 g0 hOin' hargs hlen =>?_).mono ?_
 ·have hcode:codeOf fn=c:=by unfold codeOf;rw[hc];rfl
  have hvc:=h a x hwf hpre;unfold Dw at hvc;rw[hcode]at hvc;exact Ie (X:=X) (hok fn.ntmps) hit heg hf hc (by rfl) (ra a x) (O:=O') (loc:=loc0) (w:=w) (args:=vs.toArray) (st:=kz aM args a x)
   (by rw[di,hlen];exact ek h3) g0 hOin'
   (fun t sv ht=>by
    obtain⟨_,v,k1,k2⟩:=tp 0 hargs t sv ht;exact⟨v,by simpa using k1,k2⟩) hvc
 ·rintro e w' ⟨v,sv,st',loc',q1,q2,q3,q4,q5,q6⟩
  exact⟨v,sv,st',loc',q1,q2,q3.trans e1,(fun hq=>by cases hq),q4,t1.trans q5,q6⟩
end
end Go.Vg

