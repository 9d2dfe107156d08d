/- A part of the proof that the law TopKeptCard holds of the given program: facts that are used there. -/
import Derived.Test.YtgokjhhcfemnhacGreatDoorPart1
import Derived.Deep.Heap
import Derived.Room.AppendFits
import Derived.Lib.UnsafeStr
import Derived.Lib.SplitLaws
import Derived.Lib.ItoaNum
import Derived.Lib.AtoiAll
import Derived.RangeFuncWrites
import Derived.RangeFuncCalls
import Derived.OrdersIn
import Derived.TacticsIn
import Derived.RangeFuncBox
set_option linter.unusedSimpArgs false
set_option linter.unusedVariables false
set_option linter.defProp false
noncomputable section
open True renaming intro->aa
open Go.Lib renaming itoa->ab,trimSuffix->ae,hasPrefix->av,trimPrefix->ax,decDigits->ay,index->bm,parseUint10->bo,atoiAll->b6,splitK->cn,strCells->ct,strCells_length->dk
open Bool renaming and_eq_true->af,or_eq_true->bq,not_eq_true'->cf,or_eq_false_iff->du,not_eq_true->fh,and_false->fm
open List renaming mem_cons->ag,take->ah,drop->ai,map_cons->aj,mem_append->au,length_append->aw,range->ba,replicate->bb,mem_map->bf,length_take->bh,length->bj,mem_of_getElem?->br,mem_map_of_mem->bw,flatMap_cons->bx,drop_eq_nil_of_le->b3,mem_of_mem_take->b8,all_eq_true->ca,take_length->cb,mem_cons_of_mem->cd,take_of_length_le->cg,nodup_cons->ch,length_cons->cj,filter_cons->ck,isPrefixOf->cm,range_succ->cq,append_assoc->cu,any_eq_true->cw,any_eq_false->cy,all_eq_false->c6,pairwise_cons->c8,length_singleton->da,mem_singleton->db,size_toArray->di,map_map->dn,getElem_of_mem->dw,take_add_one->dx,length_map->ec,cons_append->ee,drop_zero->ef,mem_append_left->eg,mem_filterMap->eh,mem_append_right->ej,mem_range->et,drop_eq_getElem_cons->eu,nil_append->ey,mem_filter->e8,nodup_append->fb,take_succ_cons->fc,take_zero->fk,length_nil->fl,mem_flatMap->fo
open Nat renaming le_refl->ak,zero_le->ar,min->a8,not_lt->bc,lt_or_ge->bg,beq->bp,eq_of_beq_eq_true->bz,le_trans->b5,min_eq_left->c7,lt_of_lt_of_le->de,zero_add->dh,le_of_ble_eq_true->en,strongRecOn->fe,min_eq_right->fp
open Int renaming not_lt->ao,le_refl->az,le_trans->b7,toNat->cc,not_le->cp,ofNat_le->dc,ofNat_inj->dd,toNat_natCast->dv,toNat_of_nonneg->ew,tmod_eq_emod_of_nonneg->ez,le_sub_one_of_lt->fg
open Classical renaming byContradiction->aq,choose->b9,choose_spec->cz
open Go.IntKind renaming u64->a7,u8->dm,min->dp,max->dq,signed->dr,bits->dt,wrap->dT
open Go.Fence renaming wide->bd
open Go.Value renaming int->bt,ownBlock->ft
open Go.Op renaming bytesLess->bu
open BitVec renaming ofInt->b4
open Go.Oper renaming uponIn->cr,semAt_eq->fq
open Option.some renaming injEq->df,inj->dy
open Option renaming isSome_iff_exists->dj,bind_some->fj
open UInt8 renaming lt_iff_toNat_lt->dz,ofNat->ed,toNat_ofNat'->er
open Array renaming getD_eq_getD_getElem?->ei,toArray_toList->fv
open Go.World renaming block_lt_of_cell?->ek,putObj_heap_other->fu
open Go.Builtin renaming append_->eo
open Go.Result renaming andThen_ok->ep
open List.Perm renaming swap->e9
open Go.Region renaming Mode->fs
open Go.RowKit.Below renaming refl->fw
namespace Go.Vg
open Go.RowKit
def ky:List Cl->St->List cM->List cM×St
 |.d _ :: r,st,v :: vs=>match AA st v with
  |(v',st1)=>match ky r st1 vs with
   |(vs',st2)=>(v' :: vs',st2)
 |.obj _ :: r,st,v :: vs=>match ky r st vs with
  |(vs',st2)=>(v :: vs',st2)
 |.gX :: r,st,v :: vs=>match ky r st vs with
  |(vs',st2)=>(v :: vs',st2)
 |_,st,vs=>(vs,st)
def qF:List (Nat×OC)->List Nat->List (Nat×OC)
 |l,[]=>l
 |l,n :: r=>qF (rL l n) r
def mB:List Ob->List Ob->List Nat->Nat->List Nat
 |o :: os,o' :: os',n :: ns,b=>(match lg o o' with|true=>n|false=>b) :: mB os os' ns (b+1)
 |_,_ :: os',_,b=>b :: mB [] os' [] (b+1)
 |_,[],_,_=>[]
def Df:Nat->List Ob->List Ob->List (Nat×Nat)
 |k,o :: os,o' :: os'=>match lg o o' with
  |true=>(k,k) :: Df (k+1) os os'
  |false=>Df (k+1) os os'
 |_,_,_=>[]
def uX:Nat->List Ob->List Ob->List Nat->Bool
 |k,o :: os,o' :: os',n :: ns=>(match lg o o' with|true=>bp n k|false=>true)&&uX (k+1) os os' ns
 |_,_,_,_=>true
structure Alt (aO:List Ob) (args:List Cl):Type 1 where
 cv:Bool:=false
 bO:List Ob
 res:List Cl
 ok:CD args->PD aO->Prop:=fun _ _=>True
 out:CD args->PD aO->PD bO
 ret:CD args->PD aO->CD res
section
variable{aO:List Ob}{args:List Cl}
def Gb(al:Alt aO args)(a:CD args)(x:PD aO)(ν:List Nat)(st:St)(K:SV->St->VC):VC:=
 match nodupB (mB aO al.bO ν st.next)&&jX (st.next+al.bO.length) (mB aO al.bO ν st.next)with
 |true =>.imp (al.ok a x) (K (sH (wE (iq al.bO (al.out a x) (mB aO al.bO ν st.next)) al.res (al.ret a x)))
   {env:=st.env,aF:=lS (iq al.bO (al.out a x) (mB aO al.bO ν st.next)) al.bO (al.out a x) (mB aO al.bO ν st.next)++qF st.aF ν,next:=st.next+al.bO.length})
 |false =>.ff
def wQ(a:CD args)(x:PD aO)(ν:List Nat)(st:St)(K:SV->St->VC):List (Alt aO args)->VC
 |[] =>.leaf True
 |[al]=>Gb al a x ν st K
 |al :: al2 :: r =>.both (Gb al a x ν st K) (wQ a x ν st K (al2 :: r))
def aY(aO:List Ob)(args:List Cl)(pre:CD args->PD aO->Prop)(alts:List (Alt aO args)):aT:=fun Xz st K=>
 match ky args st Xz with
 |(Xz,st)=>match Uk aO args Xz st.aF []with
  |some ν=>match nodupB ν,lT false st.aF aO ν args Xz,eD false st.aF aO ν aO ν with
   |true,some a,some x=>Sf (mc aO x args Xz++iO aO x st.aF aO ν) (.and (pre a x) (wQ a x ν st K alts))
   |_,_,_ =>.ff
  |none =>.ff
def kA(aO:List Ob)(args:List Cl)(a:CD args)(x:PD aO):St:=
 {env:=pX 0 (wE (iq aO x (upto 0 aO.length)) args a),aF:=lS (iq aO x (upto 0 aO.length)) aO x (upto 0 aO.length),next:=aO.length}
def sJ(a:CD args)(x:PD aO)(vs:List cM)(st:St):List (Alt aO args)->VC
 |[] =>.ff
 |al :: r=>match ky al.res st vs with
  |(vs',st')=>match Uk al.bO al.res vs' st'.aF (Df 0 aO al.bO)with
   |some ν=>match nodupB ν&&(uX 0 aO al.bO ν&&(!al.cv || (sE aO&&(gC al.bO&&jH al.res)))),lT al.cv st'.aF al.bO ν al.res vs',eD al.cv st'.aF al.bO ν al.bO ν with
    |true,some b,some y =>.leaf (GX (mc al.bO y al.res vs'++iO al.bO y st'.aF al.bO ν++[al.ok a x/\y=al.out a x/\b=al.ret a x]))
    |_,_,_=>sJ a x vs st r
   |none=>sJ a x vs st r
def cW(B:Cx)(Γ:List (FuncId×(Bool×aT)))(fn:Func)(anns:dL)(aO:List Ob)(args:List Cl)(alts:List (Alt aO args))(a:CD args)(x:PD aO):VC:=
 Mr (qT B Γ fn.ntmps) anns fn.results.toList (codeOf fn) (kA aO args a x) fun vs st'=>sJ a x vs st' alts
def gV:(cls:List Cl)->CD cls->Prop
 |[],_=>True
 |.d t :: r,x=>wf t x.1/\gV r x.2
 |.obj _ :: r,x=>gV r x
 |.gX :: r,x=>gV r x
end
section
variable{eT:TypeId}{X:Ext}
def qU{k:Nat}:∀{l:List Nat} {n:Nat},jX k l=true->n∈l->n<k
 |[],_,_,h=>by simp at h
 |m :: r,n,h,hn=>by
  simp only[jX,af]at h;rcases ag.1 hn with e|hn
  ·rw[e];exact mb h.1
  ·exact qU h.2 hn
def mu(m:Nat):∀(ns:List Nat) (l:List (Nat×OC)),look (qF l ns) m=if m∈ns then none else look l m
 |[],l=>by simp[qF]
 |n :: r,l=>by
  simp only[qF];rw[mu m r,lR];by_cases h1:m∈r
  ·simp[h1]
  ·by_cases h2:n=m
   ·subst h2;simp
   ·have:¬m=n:=fun e=>h2 e.symm
    simp[h1,h2,this]
def qG:∀{aO bO:List Ob} {ν:List Nat} {b i n:Nat},(mB aO bO ν b)[i]?=some n->
  (∃o o',aO[i]?=some o/\bO[i]?=some o'/\lg o o'=true/\ν[i]?=some n)\/b<=n
 |aO,[],ν,b,i,n,h=>by
  cases aO <;> cases ν <;> simp[mB]at h
 |[],o' :: os',ν,b,i,n,h=>by
  simp only[mB]at h;cases i with
  |zero=>simp at h;exact .inr (by omega)
  |succ i=>
   rcases qG (aO:=[]) (ν:=[]) (by simpa using h)with⟨o,_,h1,_⟩|h1
   ·simp at h1
   ·exact .inr (by omega)
 |o :: os,o' :: os',[],b,i,n,h=>by
  simp only[mB]at h;cases i with
  |zero=>simp at h;exact .inr (by omega)
  |succ i=>
   rcases qG (aO:=[]) (ν:=[]) (by simpa using h)with⟨o,_,h1,_⟩|h1
   ·simp at h1
   ·exact .inr (by omega)
 |o :: os,o' :: os',n0 :: ns,b,i,n,h=>by
  simp only[mB]at h;cases i with
  |zero=>
   simp only[List.getElem?_cons_zero,df]at h;split at h
   ·rename_i hk;exact .inl ⟨o,o',rfl,rfl,hk,by simp[h]⟩
   ·exact .inr (by omega)
  |succ i=>
   rcases qG (by simpa using h)with⟨a,a',h1,h2,h3⟩|h1
   ·exact .inl ⟨a,a',by simpa using h1,by simpa using h2,by simpa using h3⟩
   ·exact .inr (by omega)
def pY:∀{aO bO:List Ob} {ν:List Nat} {b:Nat},(mB aO bO ν b).length=bO.length
 |aO,[],ν,b=>by cases aO <;> cases ν <;> rfl
 |[],o' :: os',ν,b=>by simp[mB,pY]
 |o :: os,o' :: os',[],b=>by simp[mB,pY]
 |o :: os,o' :: os',n0 :: ns,b=>by simp[mB,pY]
def BW:∀{aO bO:List Ob} {ν:List Nat} {k i n:Nat} {o o':Ob},uX k aO bO ν=true->aO[i]?=some o->bO[i]?=some o'->lg o o'=true->ν[i]?=some n->n=k+i
 |[],_,_,_,_,_,_,_,_,h,_,_,_=>by simp at h
 |_ :: _,[],_,_,_,_,_,_,_,_,h,_,_=>by simp at h
 |_ :: _,_ :: _,[],_,_,_,_,_,_,_,_,_,h=>by simp at h
 |a :: os,a' :: os',m :: ns,k,0,n,o,o',h,h1,h2,h3,h4=>by
  simp at h1 h2 h4;subst h1;subst h2;subst h4;simp only[uX,h3,af]at h;have:=bz h.1;omega
 |a :: os,a' :: os',m :: ns,k,i+1,n,o,o',h,h1,h2,h3,h4=>by
  simp only[uX,af]at h;have:=BW h.2 (by simpa using h1) (by simpa using h2) h3 (by simpa using h4);omega
def Ei:∀{l:List Ob} {o:Ob} {t:Ty},sE l=true->o∈l->o≠.tok t
 |[],_,_,_,h=>by simp at h
 |a :: r,o,t,h,ho=>by
  rcases ag.1 ho with e|ho
  ·subst e;intro e;subst e;simp[sE]at h
  ·exact Ei (by cases a <;> simp_all [sE]) ho
def ym{S:bH}{F:Nat->Value->Prop}:∀{cls:List Cl} {x:CD cls} {vs:List Value},s9 eT S F cls x vs->gV cls x
 |[],_,_,_=>trivial
 |.d t :: r,x,v :: vs,h=>⟨h.1.wf,ym h.2⟩
 |.obj k :: r,x,v :: vs,h=>ym (cls:=r) h.2
 |.gX :: r,x,v :: vs,h=>ym (cls:=r) h.2
def uY{S:bH}{F:Nat->Value->Prop}:∀{cls:List Cl} {x:CD cls} {vs:List Value},s9 eT S F cls x vs->vs.length=cls.length
 |[],_,_,h=>by rw[show _=[]from h];rfl
 |.d t :: r,x,v :: vs,h=>by simp[uY h.2]
 |.obj k :: r,x,v :: vs,h=>by simp[uY (cls:=r) h.2]
 |.gX :: r,x,v :: vs,h=>by simp[uY (cls:=r) h.2]
def uZ{O:aH}{loc:Nat->Loc}{w:World}:∀(cls:List Cl) (xs:List cM) {st:St},Good eT X (aB O st loc w)->
  Tr (aB O st loc w) (aB O (ky cls st xs).2 loc w)/\Good eT X (aB O (ky cls st xs).2 loc w)/\(ky cls st xs).2.env=st.env/\
   ∀vs,cN eT (aB O st loc w) xs vs->cN eT (aB O (ky cls st xs).2 loc w) (ky cls st xs).1 vs:=by
 intro cls;induction cls with
 |nil=>intro xs st g;exact⟨Tr.refl _,g,rfl,fun vs h=>h⟩
 |cons cl r ih=>
  intro xs st g;cases xs with
  |nil=>cases cl <;> exact⟨Tr.refl _,g,rfl,fun vs h=>h⟩
  |cons x xs=>
   cases cl with
   |d t=>
    have g':Good (Cx.mk eT [] [] [] 0 [] [] [] false [] []).eT X (aB O st loc w):=g;obtain⟨t1,g1,e1,k1⟩:=uW g' x;obtain⟨t2,g2,e2,k2⟩:=ih xs g1;refine⟨t1.trans t2,g2,e2.trans e1,fun vs h =>?_⟩;cases h with
    |cons h1 h3=>exact .cons ((k1 _ h1).tr t2) (k2 _ (h3.tr t1))
   |obj k=>
    obtain⟨t2,g2,e2,k2⟩:=ih xs g;refine⟨t2,g2,e2,fun vs h =>?_⟩;cases h with
    |cons h1 h3=>exact .cons (h1.tr t2) (k2 _ h3)
   |gX=>
    obtain⟨t2,g2,e2,k2⟩:=ih xs g;refine⟨t2,g2,e2,fun vs h =>?_⟩;cases h with
    |cons h1 h3=>exact .cons (h1.tr t2) (k2 _ h3)
end
section
variable{X:Ext}{P:Program}{aO:List Ob}{args:List Cl}
def BX{a:CD args}{x:PD aO}{ν:List Nat}{st:St}{K:SV->St->VC}:∀{alts:List (Alt aO args)},(wQ a x ν st K alts).holds->∀al∈alts,(Gb al a x ν st K).holds
 |[],_,al,h=>by simp at h
 |[al0],h,al,ha=>by simp at ha;subst ha;exact h
 |al0 :: al1 :: r,h,al,ha=>by
  rcases ag.1 ha with e|ha
  ·subst e;exact h.1
  ·exact BX h.2 al ha
def Ej{a:CD args}{x:PD aO}{vs:List cM}{st:St}:∀{alts:List (Alt aO args)},(sJ a x vs st alts).holds->∃al∈alts,∃ν,
  nodupB ν=true/\uX 0 aO al.bO ν=true/\(al.cv=false\/(sE aO=true/\gC al.bO=true/\jH al.res=true))/\al.ok a x/\
  lT al.cv (ky al.res st vs).2.aF al.bO ν al.res (ky al.res st vs).1=some (al.ret a x)/\eD al.cv (ky al.res st vs).2.aF al.bO ν al.bO ν=some (al.out a x)/\
  (∀p∈mc al.bO (al.out a x) al.res (ky al.res st vs).1,p)/\(∀p∈iO al.bO (al.out a x) (ky al.res st vs).2.aF al.bO ν,p)
 |[],h=>h.elim
 |al :: r,h=>by
  have rest:(sJ a x vs st r).holds->∃al'∈al :: r,∃ν,
    nodupB ν=true/\uX 0 aO al'.bO ν=true/\(al'.cv=false\/(sE aO=true/\gC al'.bO=true/\jH al'.res=true))/\al'.ok a x/\
    lT al'.cv (ky al'.res st vs).2.aF al'.bO ν al'.res (ky al'.res st vs).1=some (al'.ret a x)/\eD al'.cv (ky al'.res st vs).2.aF al'.bO ν al'.bO ν=some (al'.out a x)/\
    (∀p∈mc al'.bO (al'.out a x) al'.res (ky al'.res st vs).1,p)/\(∀p∈iO al'.bO (al'.out a x) (ky al'.res st vs).2.aF al'.bO ν,p):=fun h=>by
   obtain⟨al',h1,h2⟩:=Ej h;exact⟨al',by simp[h1],h2⟩
  simp only[sJ]at h;split at h
  ·rename_i ν hν
   split at h
   ·rename_i b y hc hb hy
    simp only[af,bq,cf]at hc;obtain⟨h1,h2,h3⟩:=hc;have hall:=uM h;have k3:al.ok a x/\y=al.out a x/\b=al.ret a x:=hall _ (ej _ (by simp));obtain⟨k4,k5,k6⟩:=k3;subst k5;subst k6;obtain⟨k1,_⟩:=jh.1 hall;obtain⟨k1,k2⟩:=jh.1 k1;exact⟨al,by simp,ν,h1,h2,h3,k4,hb,hy,k1,k2⟩
   ·exact rest h
  ·exact rest h
def Ek{B:Cx}{f:FuncId}{pre:CD args->PD aO->Prop}{alts:List (Alt aO args)}
  {O:aH}{st:St}{loc:Nat->Loc}{w:World}{Xz:List cM}{vs:List Value}{K:SV->St->VC}(g:Good B.eT X (aB O st loc w))(hO:eR O w)(ha:cN B.eT (aB O st loc w) Xz vs)
  {ν:List Nat}{a:CD args}{x:PD aO}(hnd:nodupB ν=true)(hga:lT false st.aF aO ν args Xz=some a)(hx:eD false st.aF aO ν aO ν=some x)
  (hp1:∀p∈mc aO x args Xz,p)(hp2:∀p∈iO aO x st.aF aO ν,p)(hpre:pre a x)(hK:(wQ a x ν st K alts).holds)
  (hcall:gV args a->∀(O':aH) (loc0:Nat->Loc),Good B.eT X (aB O' (kA aO args a x) loc0 w)->eR O' w->cN B.eT (aB O' (kA aO args a x) loc0 w) (wE (iq aO x (upto 0 aO.length)) args a) vs->vs.length=args.length->
   Calls P f vs.toArray w fun e w'=>∃rs us' st' locE,e=.returned (uV us')/\(sJ a x rs st' alts).holds/\cN B.eT (aB O' st' locE w') rs us'/\Good B.eT X (aB O' st' locE w')/\Tr (aB O' (kA aO args a x) loc0 w) (aB O' st' locE w')) :
  Calls P f vs.toArray w fun e w'=>∃v sv st' loc',e=.returned v/\(K sv st').holds/\st'.env=st.env/\Good B.eT X (aB O st' loc' w')/\
   Tr (aB O st loc w) (aB O st' loc' w')/\dJ B.eT (aB O st' loc' w') sv v:=by
 have hvals:=D4 g hx hga ha hp1;have hobsl:=pn hx
 let us:=upto 0 aO.length
 have hul:ν.length=us.length:=by rw[uN];exact hobsl.symm
 let O':aH:=fun b off=>O b off\/∃n oc,look st.aF n=some oc/\n∉ν/\b∈(loc n).bs/\oc.lo<=off
 let st0:=kA aO args a x
 have hOin':eR O' w:=by
  rintro b off (h|⟨n,oc,h1,_,h2,_⟩)
  ·exact hO b off h
  ·exact(g.obj n oc h1).2.inside b h2
 have hlo:∀n∈ν,∀oc,look st.aF n=some oc->sE aO=true->oc.lo=0:=by
  intro n hn oc h1 h2;obtain⟨o,oc',y,k1,k2,k3⟩:=mr hx hn;rw[h1]at k2;cases k2;have:=(lI k3 (fun _ =>.any)).2.2.2 (fun t=>Ei h2 k1) rfl;cases oc <;> first|rfl|exact(this _ _ rfl).elim
 have hν:∀n∈ν,∃oc,look st.aF n=some oc:=fun n hn=>let⟨_,oc,_,_,k,_⟩:=mr hx hn;⟨oc,k⟩
 let loc0:=fI us (ν.map loc) loc
 have hf0:∀k oc,look st0.aF k=some oc->∃(i n:Nat) (o:Ob) (y:OD o) (oc0:OC),ν[i]?=some n/\us[i]?=some k/\aO[i]?=some o/\look st.aF n=some oc0/\jS false st.aF aO ν o oc0=some y/\oc=qS (iq aO x us) o y/\loc0 k=loc n:=by
  intro k oc hk;obtain⟨i,n,o,y,oc0,k1,k2,k3,k4,k5,k6,_⟩:=rf hx (re (X:=X) g hx hx hp2) hul hk;exact⟨i,n,o,y,oc0,k1,k2,k3,k4,k5,k6,kK (kL _ _) k2 (by simp[k1])⟩
 have hA0:∀b o,(aB O' st0 loc0 w).A b o->(aB O st loc w).A b o:=by
  rintro b off ((h|⟨n,oc,h1,_,h2,h3⟩)|⟨k,oc,h1,h2,h3⟩)
  ·exact .inl h
  ·exact .inr ⟨n,oc,h1,h2,h3⟩
  ·obtain⟨i,n,o,y,oc0,_,_,_,k4,k5,k6,k7⟩:=hf0 k oc h1
   refine .inr ⟨n,oc0,k4,by simp only[aB]at h2;rw[k7]at h2;exact h2,?_⟩;rcases Dd (f:=iq aO x us) k5 with e|e
   ·rw[<-e,<-k6];exact h3
   ·cases e
 have hown0:∀b,(aB O' st0 loc0 w).owns b->∃n∈ν,b∈(loc n).bs:=by
  rintro b ⟨k,oc,h1,h2⟩;obtain⟨i,n,o,y,oc0,k1,_,_,_,_,_,k7⟩:=hf0 k oc h1;exact⟨n,br k1,by simp only[aB]at h2;rw[k7]at h2;exact h2⟩
 obtain⟨g0,laid0⟩:=Mk (X:=X) g hx hp2 hnd (O2:=O') (ν2:=us) (rest:=[]) (locR:=loc) (st2:=st0) (kL _ _) hul
  (by simp[st0,kA,us]) (fun n hn=>by have:=rS hn;simp[st0,kA];omega)
  (fun n hn b hb off=>by
   obtain⟨oc,k⟩:=hν n hn;rintro(h|⟨m,oc',h1,h2,h3,_⟩)
   ·exact g.out n oc b off k hb h
   ·exact h2 (by rw[<-g.apart n m oc oc' b k h1 hb h3];exact hn))
  (fun n hn b hb m oc h=>by simp[look]at h) (fun m oc h=>by simp[look]at h) (fun m m' oc oc' b h=>by simp[look]at h) (fun m oc b off h=>by simp[look]at h) (.inr hA0)
  (fun b hb h=>by
   obtain⟨n,hn,hbn⟩:=hown0 b h;obtain⟨oc,k⟩:=hν n hn;exact g.kV.2 b hb ⟨n,oc,k,hbn⟩)
 have hargs:cN B.eT (aB O' st0 loc0 w) (wE (iq aO x us) args a) vs:=GZ (S:=aB O st loc w) (S':=aB O' st0 loc0 w) rfl (fun k v hk=>BL laid0 hk) (.inr hA0) hvals;have hcalls:=hcall (ym hvals) O' loc0 g0 hOin' hargs (uY hvals);refine hcalls.mono ?_;rintro e w' ⟨rs,us',st',locE,he,hk,hr,gE',trE'⟩;obtain⟨al,hal,ν',hnd',hkept,hcv,hokal,hret,hout,hc1,hc2⟩:=Ej hk;obtain⟨tF,gE,_,kF⟩:=uZ al.res rs gE';generalize hst2:(ky al.res st' rs).2=st2 at*;generalize hrs2:(ky al.res st' rs).1=rs2 at*;have trE:=trE'.trans tF;have hrE:=kF us' hr;have hKal:=BX hK al hal;unfold Gb at hKal;split at hKal
 case h_2=>exact hKal.elim
 rename_i hn1;simp only[af]at hn1;obtain⟨hnd1,hbel⟩:=hn1;have hKal:=hKal hokal;generalize hν1:mB aO al.bO ν st.next=ν1 at*;have hl1:ν'.length=ν1.length:=by rw[<-hν1,pY];exact(pn hout).symm
 generalize hst1:({env:=st.env,aF:=lS (iq al.bO (al.out a x) ν1) al.bO (al.out a x) ν1++qF st.aF ν,next:=st.next+al.bO.length}:St)=st1 at hKal;have h1env:st1.env=st.env:=by rw[<-hst1]
 have h1objs:st1.aF=lS (iq al.bO (al.out a x) ν1) al.bO (al.out a x) ν1++qF st.aF ν:=by rw[<-hst1]
 have h1next:st1.next=st.next+al.bO.length:=by rw[<-hst1]
 let loc1:=fI ν1 (ν'.map locE) loc
 have hf1:∀m oc,look st1.aF m=some oc->(∃(i n:Nat) (o:Ob) (y:OD o) (oc0:OC),ν'[i]?=some n/\ν1[i]?=some m/\al.bO[i]?=some o/\look st2.aF n=some oc0/\jS al.cv st2.aF al.bO ν' o oc0=some y/\
   oc=qS (iq al.bO (al.out a x) ν1) o y/\loc1 m=locE n)\/(m∉ν1/\m∉ν/\look st.aF m=some oc/\loc1 m=loc m):=by
  intro m oc hm;rw[h1objs,eL]at hm;split at hm
  ·rename_i oc' hm'
   cases hm;obtain⟨i,n,o,y,oc0,k1,k2,k3,k4,k5,k6,_⟩:=rf hout (re (X:=X) gE hout hout hc2) hl1 hm';exact .inl ⟨i,n,o,y,oc0,k1,k2,k3,k4,k5,k6,kK hnd1 k2 (by simp[k1])⟩
  ·rename_i hm'
   have hnin:m∉ν1:=fun hmem=>by
    obtain⟨oc1,h2⟩:=qA (f:=iq al.bO (al.out a x) ν1) (x:=al.out a x) (by rw[<-hν1,pY]) hmem;rw[h2]at hm';cases hm'
   rw[mu]at hm;split at hm
   ·cases hm
   ·rename_i hmn
    exact .inr ⟨hnin,hmn,hm,oW hnin⟩
 have hownE:∀n∈ν',∀b∈(locE n).bs,(aB O' st2 locE w').owns b:=by
  intro n hn b hb;obtain⟨_,oc,_,_,k,_⟩:=mr hout hn;exact⟨n,oc,k,hb⟩
 have hblk:∀m oc,look st.aF m=some oc->m∉ν->∀b∈(loc m).bs,¬(aB O' st0 loc0 w).owns b:=by
  intro m oc h1 h2 b hb' ho;obtain⟨n,hn,hbn⟩:=hown0 b ho;obtain⟨oc',k⟩:=hν n hn;have:=g.apart n m oc' oc b k h1 hbn hb';exact h2 (by rw[<-this];exact hn)
 have hA1:al.cv=false->∀b o,(aB O st1 loc1 w').A b o->(aB O' st2 locE w').A b o:=by
  rintro hcv0 b off (h|⟨m,oc,h1,h2,h3⟩)
  ·exact .inl (.inl h)
  ·rcases hf1 m oc h1 with⟨i,n,o,y,oc0,k1,k2,k3,k4,k5,k6,k7⟩|⟨k1,k2,k3,k4⟩
   ·refine .inr ⟨n,oc0,k4,by simp only[aB]at h2;rw[k7]at h2;exact h2,?_⟩
    rcases Dd (f:=iq al.bO (al.out a x) ν1) k5 with e|e
    ·rw[<-e,<-k6];exact h3
    ·rw[hcv0]at e;cases e
   ·exact .inl (.inr ⟨m,oc,k3,k2,by simp only[aB]at h2;rw[k4]at h2;exact h2,h3⟩)
 have hkeep:∀(m i:Nat),ν1[i]?=some m->m<st.next->∃o o',aO[i]?=some o/\al.bO[i]?=some o'/\lg o o'=true/\ν[i]?=some m:=by
  intro m i h1 h2;rw[<-hν1]at h1;rcases qG h1 with h3|h3
  ·exact h3
  ·omega
 have hT:Tr (aB O st loc w) (aB O st1 loc1 w'):={
  O:=rfl
  next:=by simp only[aB];omega
  os:=trE.os
  output:=trE.output
  size:=trE.size
  own:=by
   rintro b ⟨m,oc,h1,h2⟩;rcases hf1 m oc h1 with⟨i,n,o,y,oc0,k1,k2,k3,k4,k5,k6,k7⟩|⟨k1,k2,k3,k4⟩
   ·simp only[aB]at h2;rw[k7]at h2
    rcases trE.own b (hownE n (br k1) b h2)with h3|h3
    ·obtain⟨n',hn',hb'⟩:=hown0 b h3
     obtain⟨oc',k⟩:=hν n' hn';exact .inl ⟨n',oc',k,hb'⟩
    ·exact .inr h3
   ·simp only[aB]at h2;rw[k4]at h2;exact .inl ⟨m,oc,k3,h2⟩
  cell:=by
   intro b off v hna hcell;obtain⟨h1,h2⟩:=trE.cell b off v (fun h=>hna (hA0 b off h)) hcell;refine⟨h1,fun h3 =>?_⟩;rcases hcv with hcv|⟨hnt,_,_⟩
   ·exact h2 (hA1 hcv b off h3)
   ·rcases h3 with h3|⟨m,oc,h3,h4,h5⟩
    ·exact hna (.inl h3)
    ·rcases hf1 m oc h3 with⟨i,n,o,y,oc0,k1,k2,k3,k4,k5,k6,k7⟩|⟨k1,k2,k3,k4⟩
     ·simp only[aB]at h4;rw[k7]at h4
      rcases trE.own b (hownE n (br k1) b h4)with h6|h6
      ·obtain⟨n',hn',hb'⟩:=hown0 b h6
       obtain⟨oc',k⟩:=hν n' hn';exact hna (.inr ⟨n',oc',k,hb',by rw[hlo n' hn' oc' k hnt];exact ar _⟩)
      ·have:=ek _ _ hcell
       simp only[aB]at this h6;omega
     ·simp only[aB]at h4;rw[k4]at h4;exact hna (.inr ⟨m,oc,k3,h4,h5⟩)
  block:=fun b hb' ho=>trE.block b hb' fun h=>ho (by
   obtain⟨n,hn,hbn⟩:=hown0 b h;obtain⟨oc,k⟩:=hν n hn;exact⟨n,oc,k,hbn⟩)
  loc:=by
   intro m hm hfix;by_cases hin:m∈ν1
   ·obtain⟨i,hi⟩:=List.getElem?_of_mem hin
    obtain⟨o,o',e1,e2,e3,e4⟩:=hkeep m i hi hm;have hiE:i<ν'.length:=by rw[hl1];exact bF hi
    have hn':ν'[i]?=some ν'[i]:=List.getElem?_eq_getElem hiE;have hni:=BW hkept e1 e2 e3 hn';rw[dh]at hni;have e5:loc1 m=locE i:=by
     have:=kK (d:=loc) hnd1 hi (ls:=ν'.map locE) (l:=locE i) (by simp[hn',hni]);exact this
    have hui:us[i]?=some i:=by have:=Az aO.length 0 i (bF e1);simpa using this
    have e6:loc0 i=loc m:=kK (kL _ _) hui (by simp[e4]);have e7:=trE.loc i (show i<st0.next by simp[st0,kA];exact bF e1) (fun t ys hy=>by
     obtain⟨j,n,o2,y,oc0,k1,k2,k3,k4,k5,k6,k7⟩:=hf0 i _ hy;have hj:j=i:=qB (kL _ _) k2 hui;subst hj;rw[e1]at k3;cases k3;cases o <;> simp[qS]at k6;cases o' <;> simp[lg]at e3)
    show(loc1 m).v=(loc m).v/\(_->loc1 m=loc m);rw[e5,<-e6];refine⟨e7.1,fun hr=>e7.2 fun t z hy =>?_⟩;obtain⟨j,n,o2,y,oc0,k1,k2,k3,k4,k5,k6,k7⟩:=hf0 i _ hy;have hj:j=i:=qB (kL _ _) k2 hui;subst hj;rw[e4]at k1;cases k1;cases o2 <;> simp[qS]at k6;obtain⟨rfl,rfl,_⟩:=k6;obtain⟨z',rfl⟩:=(lI k5 (fun _ =>.any)).2.1 _ _ rfl;exact hr _ _ k4
   ·exact ot (oW hin)
  kind:=by
   intro m oc' hm hob;rcases hf1 m oc' hob with⟨i,n,o,y,oc0,k1,k2,k3,k4,k5,k6,k7⟩|⟨k1,k2,k3,k4⟩
   ·obtain⟨o0,o',e1,e2,e3,e4⟩:=hkeep m i k2 hm
    rw[k3]at e2;cases e2;have hui:us[i]?=some i:=by have:=Az aO.length 0 i (bF e1);simpa using this
    obtain⟨oc2,h2⟩:=qA (f:=iq aO x us) (x:=x) (ms:=us) (by rw[uN]) (br hui);obtain⟨j,n2,o2,y2,oc3,j1,j2,j3,j4,j5,j6,j7⟩:=hf0 i oc2 (by simpa[st0,kA]using h2);have hj:j=i:=qB (kL _ _) j2 hui;subst hj;rw[e1]at j3;cases j3;rw[e4]at j1;cases j1;refine⟨oc3,j4,?_⟩;cases o0 <;> cases o <;> simp[lg]at e3
    ·subst e3
     obtain⟨cs,rfl⟩:=(lI j5 (fun _ =>.any)).1 _ _ rfl;rw[k6];rfl
    ·rename_i kp t kp' t'
     cases kp <;> cases kp' <;> simp at e3;have e3:=Ty.eq_of_beq e3;subst e3;obtain⟨xs,rfl⟩:=(lI j5 (fun _ =>.any)).2.2.1 _ _ rfl rfl;rw[k6];rfl
    ·obtain⟨e3,e4⟩:=e3
     have e4:=Ty.eq_of_beq e4;subst e3;subst e4;obtain⟨z,rfl⟩:=(lI j5 (fun _ =>.any)).2.1 _ _ rfl;rw[k6];exact⟨rfl,rfl⟩
   ·refine⟨oc',k3,?_⟩
    cases oc' <;> simp[aW,aB,k4]}
 obtain⟨g1,laid1⟩:=Mk (X:=X) gE hout hc2 hnd' (O2:=O) (ν2:=ν1) (rest:=qF st.aF ν) (locR:=loc) (st2:=st1) hnd1 hl1 h1objs
  (fun n hn=>by rw[h1next];exact qU hbel hn)
  (fun n hn b hb' off h=>by
   obtain⟨_,oc,_,_,k,_⟩:=mr hout hn;exact gE.out n oc b off k hb' (.inl h))
  (fun n hn b hb' m oc h1 h2 h3=>by
   rw[mu]at h1;split at h1
   ·cases h1
   ·rename_i hmn
    rcases trE.own b (hownE n hn b hb')with h4|h4
    ·exact hblk m oc h1 hmn b h3 h4
    ·have:=(g.obj m oc h1).2.inside b h3
     simp only[aB]at this h4;omega)
  (fun m oc h1 h2=>by
   rw[mu]at h1;split at h1
   ·cases h1
   ·rename_i hmn
    obtain⟨k1,k2⟩:=g.obj m oc h1;refine⟨by rw[h1next];simp only[aB]at k1;omega,k2.tr hT fun b hb' =>?_⟩;exact trE.block b (k2.inside b hb') (hblk m oc h1 hmn b hb'))
  (fun m m' oc oc' b h1 h2 _ _ h3 h4=>by
   rw[mu]at h1 h2;split at h1
   ·cases h1
   ·split at h2
    ·cases h2
    ·exact g.apart m m' oc oc' b h1 h2 h3 h4)
  (fun m oc b off h1 _ h2=>by
   rw[mu]at h1;split at h1
   ·cases h1
   ·exact g.out m oc b off h1 h2)
  (by
   rcases hcv with hcv|⟨_,hcv,_⟩
   ·exact .inr (hA1 hcv)
   ·exact .inl hcv)
  (g.kV.tr hT).2
 have hres:=D4 gE hout hret hrE hc1;refine⟨_,_,st1,loc1,he,hKal,h1env,g1,hT,wP (GZ (S:=aB O' st2 locE w') (S':=aB O st1 loc1 w') rfl (fun k v hk=>BL laid1 hk) ?_ hres)⟩;rcases hcv with hcv|⟨_,_,hcv⟩
 ·exact .inr (hA1 hcv)
 ·exact .inl hcv
def Sq{B:Cx}{Γ:List (FuncId×(Bool×aT))}(hok:bN P B X Γ){f:FuncId}{fn:Func}{c:Code}(hf:P.funcs[f]?=some fn)(hb:fn.body=some c)(hN:args.length<=fn.ntmps){anns:CD args->PD aO->dL}
  {pre:CD args->PD aO->Prop}{alts:List (Alt aO args)}(h:∀a x,gV args a->pre a x->(cW B Γ fn (anns a x) aO args alts a x).holds)
  {O:aH}{st:St}{loc:Nat->Loc}{w:World}{Xz:List cM}{vs:List Value}{K:SV->St->VC}(g:Good B.eT X (aB O st loc w))(hO:eR O w)(ha:cN B.eT (aB O st loc w) Xz vs)
  {ν:List Nat}{a:CD args}{x:PD aO}(hnd:nodupB ν=true)(hga:lT false st.aF aO ν args Xz=some a)(hx:eD false st.aF aO ν aO ν=some x)
  (hp1:∀p∈mc aO x args Xz,p)(hp2:∀p∈iO aO x st.aF aO ν,p)(hpre:pre a x)(hK:(wQ a x ν st K alts).holds) :
  Calls P f vs.toArray w fun e w'=>∃v sv st' loc',e=.returned v/\(K sv st').holds/\st'.env=st.env/\Good B.eT X (aB O st' loc' w')/\
   Tr (aB O st loc w) (aB O st' loc' w')/\dJ B.eT (aB O st' loc' w') sv v:=by
 refine Ek (B:=B) (pre:=pre) g hO ha hnd hga hx hp1 hp2 hpre hK fun hwf O' loc0 g0 hOin' hargs hlen =>?_
 have hcode:codeOf fn=c:=by unfold codeOf;rw[hb];rfl
 have hvc:=h a x hwf hpre;unfold cW at hvc;rw[hcode]at hvc;exact tg (X:=X) (hok fn.ntmps) hf hb (by rfl) (anns a x) (O:=O') (loc:=loc0) (w:=w) (args:=vs.toArray) (st:=kA aO args a x)
  (by rw[di,hlen];exact hN) g0 hOin'
  (fun t sv ht=>by
   obtain⟨_,v,k1,k2⟩:=th 0 hargs t sv ht;exact⟨v,by simpa using k1,k2⟩) hvc
def bG{B:Cx}{Γ:List (FuncId×(Bool×aT))}(hok:bN P B X Γ){f:FuncId}{fn:Func}(hf:P.funcs[f]?=some fn)(hg:pr fn args.length=true)(anns:CD args->PD aO->dL)
  {pre:CD args->PD aO->Prop}{alts:List (Alt aO args)}(h:∀a x,gV args a->pre a x->(cW B Γ fn (anns a x) aO args alts a x).holds) :
  bZ P B.eT X f false (aY aO args pre alts):=by
 simp only[pr,af,cf]at hg;obtain⟨⟨h1,h2⟩,h3⟩:=hg;obtain⟨c,hc⟩:=dj.1 h1;refine⟨⟨fn,hf,by rw[hc];rfl,h2⟩,fun O st loc w Xz vs K hK g hO ha =>?_⟩;unfold aY at hK;obtain⟨t1,g1,e1,k1⟩:=uZ args Xz g;simp only at hK;split at hK
 case h_2=>exact hK.elim
 rename_i ν hν;split at hK
 case h_2=>exact hK.elim
 rename_i a x hnd hga hx;obtain⟨hp,hpre,hK⟩:=Ax hK;obtain⟨hp1,hp2⟩:=jh.1 hp;refine(Sq hok hf hc (en h3) h g1 hO (k1 vs ha) hnd hga hx hp1 hp2 hpre hK).mono ?_;rintro e w' ⟨v,sv,st',loc',q1,q2,q3,q4,q5,q6⟩;exact⟨v,sv,st',loc',q1,q2,q3.trans e1,(fun hq=>by cases hq),q4,t1.trans q5,q6⟩
end
end Go.Vg

namespace Go.Vg
@[reducible] def aR:Ty:=.prod .str (.prod (.int .i64) (.prod .bool .unit))
@[reducible] def aZ:Ty:=.prod (.int .i64) (.prod (.int .i64) .unit)
@[reducible] def bB:Ty:=.prod (.int .i64) (.prod (.int .i64) (.prod (.int .i64) (.prod .str (.prod .bool .unit))))
@[reducible] def aS:Ty:=.prod (.int .i64) (.prod (.int .i64) (.prod (.int .i64) .unit))
@[reducible] def aG:Ty:=.prod .str (.prod (.int .i64) (.prod (.int .i64) .unit))
@[reducible] def aA:Ty:=.prod (.slice .str) (.prod (.slice (.int .i64)) (.prod (.slice aR) (.prod (.slice bB) .unit)))
@[reducible] def aC:Ty:=.prod .str (.prod (.slice aG) (.prod (.slice aS) .unit))
@[reducible] def dB:Ty:=.prod .str (.prod .str (.prod .str (.prod (.int .i64) (.prod (.int .u64) (.prod aC .unit)))))
@[reducible] def dF:Ty:=.prod .str (.prod (.int .i64) (.prod (.slice (.int .i64)) .unit))
@[reducible] def jr:Ty:=.prod (.int .i64) (.prod .str .unit)
@[reducible] def Um:Ty:=.prod (.slice .str) (.prod (.slice .str) (.prod (.slice jr) (.prod (.int .i64) (.prod .bool .unit))))
theorem bl :
  (∀(p:Prop) [Decidable p],(decide p=true)=p)/\(∀(p:Prop) [Decidable p],(decide p=false)=¬p)/\
  (∀(α:Type) [BEq α] [LawfulBEq α] (a b:α),((a == b)=true)=(a=b))/\(∀(α:Type) [BEq α] [LawfulBEq α] (a b:α),((a == b)=false)=¬a=b)/\
  (∀(α:Type) [BEq α] [LawfulBEq α] (a b:α),((a != b)=true)=¬a=b)/\(∀(α:Type) [BEq α] [LawfulBEq α] (a b:α),((a != b)=false)=(a=b))/\
  (∀b:Bool,((!b)=true)=(b=false))/\(∀b:Bool,((!b)=false)=(b=true))/\(∀b:Bool,(¬b=true)=(b=false))/\(∀b:Bool,(¬b=false)=(b=true))/\
  (∀a b:Bool,((a&&b)=true)=(a=true/\b=true))/\(∀a b:Bool,((a || b)=true)=(a=true\/b=true))/\
  (∀a b:Bool,((a&&b)=false)=(a=false\/b=false))/\(∀a b:Bool,((a || b)=false)=(a=false/\b=false))/\
  (∀a b:Int,(¬a<b)=(b<=a))/\(∀a b:Int,(¬a<=b)=(b<a)):=by
 refine⟨?_,?_,?_,?_,?_,?_,?_,?_,?_,?_,?_,?_,?_,?_,?_,?_⟩ <;> intros <;> first|(simp;done)|(rename_i a b;cases a <;> cases b <;> simp)
end Go.Vg

namespace Go.Vg
open Go.RowKit
def Sr{w:World}{b i:Nat}{c:Array Value}{T:TypeId}{v:Value}(hb:w.heap[b]?=some (.cells c T (0,0))):(w.setCell ⟨b,i,none⟩ v).heap[b]?=some (.cells (c.setIfInBounds i v) T (0,0)):=by
 simp[World.setCell,Array.getElem?_modify,hb]
def UX{P:Program}{w:World}{t u ty e:TypeId}{i:TypeInfo}(ht:P.underlying t=some (.slice e))(hu:P.underlying u=some .string)(hi:P.info? e=some i)(hz:i.zero=some (.int .u8 0))
  (hsize:i.size=1)(hby:i.bytes=1){v:Value}{xs:List Value}(hown:w.ownsRow 0 e 1 v xs.length xs)(hcap:∀a n c,v=.slice (some a) n c->0<c)(s:ByteArray)(hlen:xs.length+s.size<=140737488355328) :
  ∃v' w',(eo #[t,u] ty #[v,.string s]).run P w=.ok v' w'/\w'.ownsRow 0 e 1 v' (xs.length+s.size) (xs++ct s)/\w.grownBy w' v.ownBlock/\(∀a n c,v'=.slice (some a) n c->0<c)/\
   (∀g,v'.ownBlock=some g->v.ownBlock=some g\/w.heap.size<=g):=by
 rcases hown.2 with⟨rfl,h0⟩|⟨g,cap,cur,rfl,hbg,hg,hnc,hcm,hcs,htake⟩
 ·have hown':w.ownsRow w.heap.size e 1 (.slice none 0 0) xs.length xs:=⟨hown.1,.inl ⟨rfl,h0⟩⟩
  obtain⟨v',w',h1,h2,h3,h4⟩:=Lib.run_append_own_string (P:=P) w w.heap.size t u ty e i ht hu hi hz hsize hby _ _ _ hown' s (by unfold maxLen;omega) hlen (ak _);rcases h2.2 with⟨rfl,h6⟩|⟨g,cap,cur,rfl,k1,k2,k3,k4⟩
  ·exact⟨_,w',h1,⟨h2.1,.inl ⟨rfl,h6⟩⟩,h3,(fun a n c hh=>by cases hh),(fun g hh=>by cases hh)⟩
  ·refine⟨_,w',h1,⟨h2.1,.inr ⟨g,cap,cur,rfl,ar _,k2,k3,k4⟩⟩,h3,fun a n c hh =>?_,fun g' hh=>by cases hh;exact .inr k1⟩
   cases hh;by_cases hs:s.size=0
   ·have:=h4.2 ⟨rfl,hs⟩;cases this
   ·omega
 ·have hc0:=hcap _ _ _ rfl
  by_cases hroom:xs.length+s.size<=cap
  ·obtain⟨w',h1,h2,h3⟩:=Lib.run_append_fits_string (P:=P) w 0 t u ty e i ht hu hi hsize _ _ _ _ hown s hc0 hroom
   exact⟨_,w',h1,h2,h3,(fun a n c hh=>by cases hh;exact hc0),(fun g' hh =>.inl hh)⟩
  ·have holds:∀j u,xs[j]?=some u->w.cell? ((⟨g,0,none⟩:Addr).add j)=some u:=hown.cells (g:=g) rfl
   have hr:=Lib.run_append_grow_string (P:=P) w t u ty e i (.int .u8 0) ht hu hi hz ⟨g,0,none⟩ xs.length cap xs (by rw[hsize];simp) holds s (by omega) (by omega) (by rw[hby];exact growslice_fits (by omega) (by omega));have hge:=grownCap_ge w (xs.length+s.size) cap e;have hcm':grownCap w (xs.length+s.size) cap e<=maxLen:=grownCap_le_maxLen w (xs.length+s.size) cap e (by unfold maxLen;omega);refine⟨_,_,hr,⟨by simp[dk],.inr ⟨w.heap.size,_,_,rfl,ar _,heap_alloc_new w.drew _,hge,hcm',?_,?_⟩⟩,⟨rfl,rfl,rfl,by simp,fun k hk _=>Go.Deep.blk_alloc_lt w.drew _ k hk⟩,(fun a n c hh=>by cases hh;omega),(fun g' hh=>by cases hh;exact .inr (ak _))⟩
   ·have hz1:(bt dm 0).cells.size=1:=rfl
    simp only[Array.size_append,di,size_zeroCells,hz1,dk];omega
   ·simp only[Array.toList_append,cu]
    rw[<-cu];have:(xs++ct s).length=(xs.length+s.size)*1:=by simp[dk]
    rw[<-this];exact List.take_left
def yG{P:Program}{w w':World}{ops:Array Oper}{rest:List Oper}{o:Oper}{a:Act}{Q:Exit->Act->World->Prop}(hgd:o.guard=none)(sl x:Operand)(t u:TypeId)
  (ho:o.op=.call {callee:=.builtin .append,args:=#[sl,x],argTypes:=#[t,u]}){v v' y:Value}(hs:a.eval sl=v)(hx:a.eval x=y)
  (hr:(eo #[t,u] o.type #[v,y]).run P w=.ok v' w')(h:wpList P ops Q rest (a.put o.dst v') w'):wpList P ops Q (o :: rest) a w:=by
 refine wpList_plain hgd fun K hK =>?_
 unfold Oper.wp execOp;simp only[ho,resolve,invoke,builtin,Sem.run_bind,Sem.run_pure,ep,List.map_toArray,aj,List.map_nil,hs,hx,hr];exact hK _ _ h
structure Kept (b:Nat) (v:Value) (w w':World):Prop where
 os:w'.os=w.os
 output:w'.output=w.output
 size:w.heap.size<=w'.heap.size
 block:∀k,k<w.heap.size->k≠b->v.ownBlock≠some k->w'.heap[k]?=w.heap[k]?
structure My (v:Value) (w w':World):Prop where
 os:w'.os=w.os
 output:w'.output=w.output
 size:w'.heap.size=w.heap.size
 block:∀k,v.ownBlock≠some k->w'.heap[k]?=w.heap[k]?
def JI{w:World}{g n c:Nat}{m:Nat}:My (.slice (some ⟨g,0,none⟩) n c) w (w.drew.freeze ⟨g,0,none⟩ m):=by
 unfold World.freeze;split
 ·exact⟨rfl,rfl,rfl,fun _ _=>rfl⟩
 ·refine⟨rfl,rfl,by simp,fun k hk =>?_⟩
  have:k≠g:=fun e=>hk (by rw[e];rfl)
  simp only[Array.getElem?_modify];rw[if_neg (fun e=>this e.symm)];rfl
def rW(T e:Nat):aT:=fun args st K=>
 match args with
 |[.one (.eQ n),.one (.d .str s)]=>match look st.aF n with
  |some (.ext 2 t x)=>match h:Ty.beq t kx with
   |true =>.and ((cH h x).2.1=(T:Int)/\(cH h x).2.2.1=(e:Int)/\(cH h x).1.length+s.length<=140737488355328)
     (K (.mM [.one (.d (.int .i64) (s.length:Int)),.one (.d .err .nil)]) (setObj st n (.ext 2 kx ((cH h x).1++bI s,(T:Int),(e:Int),()))))
   |false =>.ff
  |_ =>.ff
 |_ =>.ff
def qH(T e:Nat):aT:=fun args st K=>
 match args with
 |[.one (.eQ n)]=>match look st.aF n with
  |some (.ext 2 t x)=>match h:Ty.beq t kx with
   |true =>.and ((cH h x).2.1=(T:Int)/\(cH h x).2.2.1=(e:Int)) (K (.s (.one (.d .str (bytesOf (cH h x).1)))) (bA st n))
   |false =>.ff
  |_ =>.ff
 |_ =>.ff
def wR(T e:Nat):aT:=fun args st K=>
 match args with
 |[.one (.eQ n)]=>match look st.aF n with
  |some (.ext 2 t x)=>match h:Ty.beq t kx with
   |true =>.and ((cH h x).2.1=(T:Int)/\(cH h x).2.2.1=(e:Int)) (K (.s (.one (.d (.int .i64) ((cH h x).1.length:Int)))) st)
   |false =>.ff
  |_ =>.ff
 |_ =>.ff
section
variable{P:Program}{eT:TypeId}{X:Ext}{f:FuncId}
def G9{O:aH}{st:St}{loc:Nat->Loc}{w:World}(g:Good eT X (aB O st loc w)){n:Nat}{x:D kx}(hob:look st.aF n=some (.ext 2 kx x)){v:Value}(hv:CR eT (aB O st loc w) (.eQ n) v) :
  ∃b p u,v=.pointer (some ⟨b,0,none⟩)/\VZ x (loc n) w b p u:=by
 obtain⟨h0,b,p,u,hD⟩:=X.On.1 (g.obj n _ hob).2;exact⟨b,p,u,(hv.2 _ hob rfl).trans hD.lv,hD⟩
def u5(s:List UInt8):bytesOf (bI s)=s:=by
 induction s with
 |nil=>rfl
 |cons c r ih=>
  simp only[bytesOf,bI,aj,dn]at ih ⊢;rw[ih];simp
def Mz{xs:List Int}(h:∀y∈xs,0<=(y:Int)/\(y:Int)<=255):bI (bytesOf xs)=xs:=by
 induction xs with
 |nil=>rfl
 |cons y r ih=>
  have h1:=h y (by simp);have h2:=ih fun z hz=>h z (by simp[hz])
  simp only[bI,bytesOf,dn,aj]at h2 ⊢;rw[h2];congr 1;simp only[er];omega
def MA(s:List UInt8):∀y∈bI s,0<=(y:Int)/\(y:Int)<=255:=by
 intro y hy;simp only[bI,bf]at hy;obtain⟨c,_,rfl⟩:=hy;have:=c.toNat_lt;omega
def Ss{xs:List Int}(h:∀y∈xs,0<=(y:Int)/\(y:Int)<=255):xs.map (bt .u8)=(bytesOf xs).map fun c=>bt .u8 c.toNat:=by
 conv=>lhs;rw[<-Mz h]
 simp[bI]
def BY{T e:Nat}(hfn:∃fn,P.funcs[f]?=some fn/\fn.body.isNone=false/\(fn.name == "runtime.NumGoroutine")=false)
  (H:∀(b:Nat) (p v:Value) (xs:List Value) (s:ByteArray) (w:World),w.heap[b]?=some (.cells #[p,v] T (0,0))->(p=.pointer none\/p=.pointer (some ⟨b,0,none⟩))->w.ownsRow 0 e 1 v xs.length xs->v.ownBlock≠some b->
   (∀a n c,v=.slice (some a) n c->0<c)->xs.length+s.size<=140737488355328->
   Calls P f #[.pointer (some ⟨b,0,none⟩),.string s] w fun r w'=>r=.returned (.tuple #[.int .i64 s.size,.nilIface])/\
    ∃v',w'.heap[b]?=some (.cells #[.pointer (some ⟨b,0,none⟩),v'] T (0,0))/\w'.ownsRow 0 e 1 v' (xs.length+s.size) (xs++ct s)/\v'.ownBlock≠some b/\Kept b v w w'/\
     (∀a n c,v'=.slice (some a) n c->0<c)/\(∀g,v'.ownBlock=some g->v.ownBlock=some g\/w.heap.size<=g)) :
  bZ P eT X f false (rW T e):=by
 refine⟨hfn,fun O st loc w args vs K hs g hO ha =>?_⟩;unfold rW at hs;split at hs
 case h_2=>exact hs.elim
 rename_i n s;split at hs
 case h_2=>exact hs.elim
 rename_i t x hob;split at hs
 case h_2=>exact hs.elim
 rename_i ht;have ht':=Ty.eq_of_beq ht;subst ht';rw[jQ]at hs;obtain⟨⟨hT,he,hlen⟩,hs⟩:=hs
 match vs,ha with
 |[v0,v1],.cons h0 (.cons h1 .nil)=>
 obtain⟨b,p,u,rfl,hD⟩:=G9 g hob h0;obtain⟨rfl,hsl⟩:=jG.1 (show CR eT _ (.d .str s) v1 from h1);have hsz:(⟨s.toArray⟩:ByteArray).size=s.length:=by simp[ByteArray.size]
 have hT':x.2.1.toNat=T:=by rw[hT];rfl
 have he':x.2.2.1.toNat=e:=by rw[he];rfl
 have hheap:=hD.heap;have hrow:=hD.row;rw[hT']at hheap;rw[he']at hrow;refine(H b p u (x.1.map (bt .u8)) ⟨s.toArray⟩ w hheap hD.ptr (by simpa using hrow) hD.ne hD.cap (by simpa[hsz]using hlen)).mono ?_;rintro r w' ⟨rfl,v',k1,k2,k3,k4,k5,k6⟩;have hlt:b<w.heap.size:=(Array.getElem?_eq_some_iff.1 hheap).1;obtain⟨tr1,g1⟩:=pO (S:=aB O st loc w) (S':=aB O (setObj st n (.ext 2 kx (x.1++bI s,(T:Int),(e:Int),()))) (bU loc n ⟨.pointer (some ⟨b,0,none⟩),b :: v'.ownBlock.toList⟩) w') (n:=n)
  (oc:=.ext 2 kx x) (oc':=.ext 2 kx (x.1++bI s,(T:Int),(e:Int),())) (l':=⟨.pointer (some ⟨b,0,none⟩),b :: v'.ownBlock.toList⟩) g rfl hO hob
  (fun m=>oJ st n m _) (fun _=>rfl) rfl (fun _=>⟨hD.lv.symm,fun h=>(h _ _ rfl).elim⟩) ⟨rfl,rfl⟩ k4.os k4.output k4.size
  (fun b' h1 h2=>k4.block b' h1 (fun e=>h2 (by simp only[aB];rw[hD.bs,e];simp)) (fun e=>h2 (by simp only[aB];rw[hD.bs,e];simp)))
  (fun b' o v _ ho=>by simp[OC.lo]at ho)
  (fun b' hb'=>by
   rcases ag.1 hb' with rfl|hb'
   ·exact .inl ⟨by simp only[aB];rw[hD.bs];simp,ak _⟩
   ·have hb':v'.ownBlock=some b':=by simpa using hb'
    rcases k6 b' hb' with h|h
    ·exact .inl ⟨by simp only[aB];rw[hD.bs,h];simp,ak _⟩
    ·exact .inr h)
 have g1:=g1 (X.On.2 ⟨rfl,b,.pointer (some ⟨b,0,none⟩),v',rfl,.inr rfl,k1,by
  have e1:x.1.map (bt .u8)++ct ⟨s.toArray⟩=(x.1++bI s).map (bt .u8):=by rw[yN,List.map_append]
  have e2:(x.1.map (bt .u8)).length+(⟨s.toArray⟩:ByteArray).size=(x.1++bI s).length:=by simp[hsz,bI]
  rw[e1,e2]at k2;exact k2,rfl,k3,(fun y hy=>by
   rcases au.1 hy with h|h
   ·exact hD.u8 y h
   ·exact MA s y h),k5⟩)
 refine⟨_,_,_,_,rfl,hs,rfl,(fun hh=>by cases hh),g1,tr1,⟨[.int .i64 (⟨s.toArray⟩:ByteArray).size,.nilIface],rfl,.cons ?_ (.cons ?_ .nil)⟩⟩
 ·refine cO.2 ⟨by rw[hsz],?_⟩
  simp only[dp,dq,dr,dt];unfold aK at hsl;constructor <;> simp <;> omega
 ·exact nu.2 rfl
def MB{O:aH}{st:St}{loc:Nat->Loc}{w w':World}(g:Good eT X (aB O st loc w)){n:Nat}{oc0:OC}(hn:look st.aF n=some oc0)(h0:oc0.lo=0)
  (hos:w'.os=w.os)(hout:w'.output=w.output)(hsz:w.heap.size<=w'.heap.size)(hb:∀b,b<w.heap.size->b∉(loc n).bs->w'.heap[b]?=w.heap[b]?) :
  Tr (aB O st loc w) (aB O (bA st n) loc w')/\Good eT X (aB O (bA st n) loc w'):=by
 have hob:∀m oc,look (bA st n).aF m=some oc->m≠n/\look st.aF m=some oc:=by
  intro m oc h;simp only[bA]at h;rw[lR]at h;split at h
  ·cases h
  ·rename_i hne;exact⟨fun e=>hne e.symm,h⟩
 have hA:∀b o,(aB O (bA st n) loc w').A b o->(aB O st loc w).A b o:=by
  rintro b o (h|⟨m,oc,h1,h2⟩)
  ·exact .inl h
  ·exact .inr ⟨m,oc,(hob _ _ h1).2,h2⟩
 have ht:Tr (aB O st loc w) (aB O (bA st n) loc w'):={
  O:=rfl
  next:=ak _
  os:=hos
  output:=hout
  size:=hsz
  own:=fun b h=>by obtain⟨m,oc,h1,h2⟩:=h;exact .inl ⟨m,oc,(hob _ _ h1).2,h2⟩
  cell:=fun b o v h1 h2=>by
   have hlt:=ek w _ h2;refine⟨?_,fun h=>h1 (hA b o h)⟩;show w'.cell? _=_;rw[World.cell?_of_block (w:=w) (w':=w') (a:=⟨b,o,none⟩) (hb b hlt fun hm=>h1 (.inr ⟨n,oc0,hn,hm,by rw[h0];exact ar _⟩))];exact h2
  block:=fun b h1 h2=>hb b h1 fun hm=>h2 ⟨n,oc0,hn,hm⟩
  loc:=fun _ _ _=>ot rfl
  kind:=fun m oc _ h=>⟨oc,(hob _ _ h).2,by cases oc <;> simp[aW,aB]⟩}
 refine⟨ht,⟨fun m oc h =>?_,fun m1 m2 oc1 oc2 b h1 h2 h3 h4 =>?_,fun m oc b off h1 h2 =>?_,g.kV.tr ht⟩⟩
 ·obtain⟨hne,h⟩:=hob _ _ h
  obtain⟨h1,h2⟩:=g.obj m oc h;exact⟨h1,h2.tr ht fun b hbm=>hb b (h2.inside b hbm) fun hbn=>hne (g.apart m n oc oc0 b h hn hbm hbn)⟩
 ·exact g.apart m1 m2 oc1 oc2 b (hob _ _ h1).2 (hob _ _ h2).2 h3 h4
 ·exact g.out m oc b off (hob _ _ h1).2 h2
def AB{T e:Nat}(hfn:∃fn,P.funcs[f]?=some fn/\fn.body.isNone=false/\(fn.name == "runtime.NumGoroutine")=false)
  (H:∀(b:Nat) (p v:Value) (l:List UInt8) (w:World),w.heap[b]?=some (.cells #[p,v] T (0,0))->w.ownsRow 0 e 1 v l.length (l.map fun c=>bt .u8 c.toNat)->(∀a n c,v=.slice (some a) n c->0<c)->
   Calls P f #[.pointer (some ⟨b,0,none⟩)] w fun r w'=>r=.returned (.string ⟨l.toArray⟩)/\My v w w') :
  bZ P eT X f false (qH T e):=by
 refine⟨hfn,fun O st loc w args vs K hs g hO ha =>?_⟩;unfold qH at hs;split at hs
 case h_2=>exact hs.elim
 rename_i n;split at hs
 case h_2=>exact hs.elim
 rename_i t x hob;split at hs
 case h_2=>exact hs.elim
 rename_i ht;have ht':=Ty.eq_of_beq ht;subst ht';rw[jQ]at hs;obtain⟨⟨hT,he⟩,hs⟩:=hs
 match vs,ha with
 |[v0],.cons h0 .nil=>
 obtain⟨b,p,u,rfl,hD⟩:=G9 g hob h0;have hT':x.2.1.toNat=T:=by rw[hT];rfl
 have he':x.2.2.1.toNat=e:=by rw[he];rfl
 have hheap:=hD.heap;have hrow:=hD.row;rw[hT']at hheap;rw[he',Ss hD.u8,show x.1.length=(bytesOf x.1).length by simp[bytesOf]]at hrow;refine(H b p u (bytesOf x.1) w hheap hrow hD.cap).mono ?_;rintro r w' ⟨rfl,k⟩;obtain⟨tr1,g1⟩:=MB (w':=w') g hob rfl k.os k.output (by rw[k.size];exact ak _) (fun b' _ h2=>k.block b' fun e=>h2 (by rw[hD.bs,e];simp));refine⟨_,_,_,_,rfl,hs,rfl,(fun hh=>by cases hh),g1,tr1,?_⟩;refine(jG (eT:=eT) (S:=aB O (bA st n) loc w')).2 ⟨rfl,?_⟩;rcases hrow.2 with⟨_,h⟩|⟨_,cap,_,_,_,_,h1,h2,_⟩
 ·rw[h];exact ar _
 ·unfold maxLen at h2;unfold aK;omega
def FY{T e:Nat}(hfn:∃fn,P.funcs[f]?=some fn/\fn.body.isNone=false/\(fn.name == "runtime.NumGoroutine")=false)
  (H:∀(b:Nat) (p q:Value) (a:Option Addr) (n c:Nat) (w:World),w.heap[b]?=some (.cells #[p,.slice a n c] T (0,0))->
   Calls P f #[.pointer (some ⟨b,0,none⟩)] w fun r w'=>r=.returned (.int .i64 n)/\w'=w) :
  bZ P eT X f true (wR T e):=by
 refine⟨hfn,fun O st loc w args vs K hs g hO ha =>?_⟩;unfold wR at hs;split at hs
 case h_2=>exact hs.elim
 rename_i n;split at hs
 case h_2=>exact hs.elim
 rename_i t x hob;split at hs
 case h_2=>exact hs.elim
 rename_i ht;have ht':=Ty.eq_of_beq ht;subst ht';rw[jQ]at hs;obtain⟨⟨hT,he⟩,hs⟩:=hs
 match vs,ha with
 |[v0],.cons h0 .nil=>
 obtain⟨b,p,u,rfl,hD⟩:=G9 g hob h0;have hT':x.2.1.toNat=T:=by rw[hT];rfl
 have hheap:=hD.heap;rw[hT']at hheap;obtain⟨a,c,rfl,hl⟩:∃a c,u=.slice a x.1.length c/\x.1.length<=aK:=by
  rcases hD.row.2 with⟨rfl,h⟩|⟨g',cap,cur,h,_,_,h1,h2,_⟩
  ·exact⟨none,0,by rw[h],by rw[h];exact ar _⟩
  ·exact⟨_,_,h,by unfold maxLen at h2;unfold aK;omega⟩
 refine(H b p p a x.1.length c w hheap).mono ?_;rintro r w' ⟨rfl,rfl⟩;refine⟨_,_,_,loc,rfl,hs,rfl,fun _=>Below.refl _ _,g,Tr.refl _,?_⟩;refine(cO (eT:=eT) (S:=aB O st loc w')).2 ⟨rfl,?_⟩;unfold aK at hl;simp only[dp,dq,dr,dt];constructor <;> simp <;> omega
end
end Go.Vg

namespace Go.Mrl
open Go.Vg
def small(c:UInt8):Bool:=decide ((97:Int)<=c.toNat)&&decide ((c.toNat:Int)<=122)
def other(c:UInt8):Bool:=(decide ((48:Int)<=c.toNat)&&decide ((c.toNat:Int)<=57)) || ((c.toNat:Int) == 95)
def iZ(i:Nat)(c:UInt8):Bool:=!small c&&((i:Int) == 0 || !other c)
def tT(s:List UInt8):Bool:=(ba s.length).any fun i=>iZ i (dH s i)
def aN(s:List UInt8):Int:=if s.length<1\/8<s.length then 1 else if tT s=true then 3 else 0
def aI(n:Int):aM:=if n=0 then .nil else .no n
def yn:aM->Int->Bool
 |.nil,n=>n == 0
 |.no m,n=>decide (n > 0)&&m == n
 |.other,_=>false
def jy:aM->Int
 |.nil=>0
 |.no m=>m
 |.other =>-1
def eU(s:List UInt8):0<=aN s:=by
 unfold aN;split
 ·decide
 ·split <;> decide
def JJ{s:List UInt8}{i:Nat}(h:i<s.length)(hb:iZ i (dH s i)=true):tT s=true:=by
 simp only[tT,cw,et];exact⟨i,h,hb⟩
def Ha{s:List UInt8}(h:∀i,i<s.length->iZ i (dH s i)=false):tT s=false:=by
 simp only[tT,cy,et];intro i hi;rw[h i hi];simp
def vQ{s:List UInt8}(h:s.length<1\/8<s.length):aN s=1:=by unfold aN;rw[if_pos h]
def iA{s:List UInt8}{i:Nat}(h:¬(s.length<1\/8<s.length))(hi:i<s.length)(hb:iZ i (dH s i)=true):aN s=3:=by
 unfold aN;rw[if_neg h,if_pos (JJ hi hb)]
def tU{s:List UInt8}(h:¬(s.length<1\/8<s.length))(hb:∀i,i<s.length->iZ i (dH s i)=false):aN s=0:=by
 unfold aN;rw[if_neg h,if_neg (by rw[Ha hb];decide)]
def lJ{i:Nat}{c:UInt8}:iZ i c=true↔¬(97<=c.toNat/\c.toNat<=122)/\(i=0\/¬((48<=c.toNat/\c.toNat<=57)\/c.toNat=95)):=by
 simp only[iZ,small,other,af,cf,Bool.and_eq_false_iff,bq,du,decide_eq_false_iff_not,beq_iff_eq,beq_eq_false_iff_ne];omega
def kY{i:Nat}{c:UInt8}:iZ i c=false↔¬(¬(97<=c.toNat/\c.toNat<=122)/\(i=0\/¬((48<=c.toNat/\c.toNat<=57)\/c.toNat=95))):=by
 rw[<-lJ];simp
def oM{s:List UInt8}{i:Nat}(h:∀j,j<i->iZ j (dH s j)=false)(hb:iZ i (dH s i)=false):∀j,j<i+1->iZ j (dH s j)=false:=by
 intro j hj;rcases bg j i with hlt|hge
 ·exact h j hlt
 ·obtain rfl:j=i:=by omega
  exact hb
def ib(p:D aR->Prop)(l:List (D aA))(i k:Nat):Prop:=
 i<l.length/\k<(nth aA l i).2.2.1.length/\p (nth aR (nth aA l i).2.2.1 k)
def yZ(s:List UInt8)(x:D aR):Prop:=x.1=s
def nF(s:List UInt8)(x:D aR):Prop:=x.1=s/\x.2.2.1=false
def ahead(i k i' k':Nat):Prop:=i<i'\/(i=i'/\k<k')
def wS(p:D aR->Prop)(l:List (D aA))(i k:Nat):Prop:=∀i' k',ahead i' k' i k->¬ib p l i' k'
def mg(p:D aR->Prop)(l:List (D aA))(i k:Nat):Prop:=ib p l i k/\wS p l i k
def wT{p:D aR->Prop}{l:List (D aA)}{i k i' k':Nat}(h:mg p l i k)(h':mg p l i' k'):i=i'/\k=k':=by
 have h1:¬ahead i k i' k':=fun a=>h'.2 i k a h.1
 have h2:¬ahead i' k' i k:=fun a=>h.2 i' k' a h'.1
 unfold ahead at h1 h2;omega
def wU{p:D aR->Prop}{l:List (D aA)}{i k:Nat}(h:ib p l i k):∃i k,mg p l i k:=by
 have hi:∀n,∀i,i<=n->∀k,ib p l i k->∃i,(∃k,ib p l i k)/\∀j,j<i->∀k,¬ib p l j k:=by
  intro n;induction n with
  |zero=>intro i hi k h;exact⟨i,⟨k,h⟩,fun j hj=>by omega⟩
  |succ n ih=>
   intro i hi k h;by_cases c:∃j,j<i/\∃k,ib p l j k
   ·obtain⟨j,hj,k,hk⟩:=c
    exact ih j (by omega) k hk
   ·exact⟨i,⟨k,h⟩,fun j hj k hk=>c ⟨j,hj,k,hk⟩⟩
 obtain⟨i0,⟨k0,h0⟩,hmin⟩:=hi i i (ak _) k h;have hk:∀n,∀k,k<=n->ib p l i0 k->∃k,ib p l i0 k/\∀j,j<k->¬ib p l i0 j:=by
  intro n;induction n with
  |zero=>intro k hk h;exact⟨k,h,fun j hj=>by omega⟩
  |succ n ih=>
   intro k hk h;by_cases c:∃j,j<k/\ib p l i0 j
   ·obtain⟨j,hj,h2⟩:=c
    exact ih j (by omega) h2
   ·exact⟨k,h,fun j hj h2=>c ⟨j,hj,h2⟩⟩
 obtain⟨k1,h1,h2⟩:=hk k0 k0 (ak _) h0;refine⟨i0,k1,h1,fun i' k' ha hp =>?_⟩;rcases ha with ha|⟨rfl,ha⟩
 ·exact hmin i' ha k' hp
 ·exact h2 k' ha hp
open Classical in
def eA(x:List (D aA)×List UInt8):Int×Int:=
 if h:∃p:Nat×Nat,mg (nF x.2) x.1 p.1 p.2 then(((b9 h).1:Nat),((b9 h).2:Nat))
 else if h:∃p:Nat×Nat,mg (yZ x.2) x.1 p.1 p.2 then(((b9 h).1:Nat),((b9 h).2:Nat))
 else(-1,-1)
def wV{l:List (D aA)}{s:List UInt8}{i k:Nat}(h:mg (nF s) l i k):eA (l,s)=((i:Int),(k:Int)):=by
 have hx:∃p:Nat×Nat,mg (nF s) l p.1 p.2:=⟨(i,k),h⟩
 unfold eA;rw[dif_pos hx];have:=wT h (cz hx);rw[<-this.1,<-this.2]
def BZ{l:List (D aA)}{s:List UInt8}{i k:Nat}(hn:∀i k,¬ib (nF s) l i k)(h:mg (yZ s) l i k):eA (l,s)=((i:Int),(k:Int)):=by
 have hx:∃p:Nat×Nat,mg (yZ s) l p.1 p.2:=⟨(i,k),h⟩
 unfold eA;rw[dif_neg (fun⟨p,h⟩=>hn p.1 p.2 h.1),dif_pos hx];have:=wT h (cz hx);rw[<-this.1,<-this.2]
def B0{l:List (D aA)}{s:List UInt8}(hn:∀i k,¬ib (yZ s) l i k):eA (l,s)=(-1,-1):=by
 unfold eA;rw[dif_neg (fun⟨p,h⟩=>hn p.1 p.2 ⟨h.1.1,h.1.2.1,h.1.2.2.1⟩),dif_neg (fun⟨p,h⟩=>hn p.1 p.2 h.1)]
def JK(l:List (D aA))(s:List UInt8):(∃i k:Nat,eA (l,s)=((i:Int),(k:Int))/\mg (nF s) l i k)\/
  (∃i k:Nat,eA (l,s)=((i:Int),(k:Int))/\mg (yZ s) l i k/\∀i k,¬ib (nF s) l i k)\/
  (eA (l,s)=(-1,-1)/\∀i k,¬ib (yZ s) l i k):=by
 by_cases h1:∃i k,ib (nF s) l i k
 ·obtain⟨i,k,h⟩:=h1
  obtain⟨i,k,h⟩:=wU h;exact .inl ⟨i,k,wV h,h⟩
 ·have h1':∀i k,¬ib (nF s) l i k:=fun i k h=>h1 ⟨i,k,h⟩
  by_cases h2:∃i k,ib (yZ s) l i k
  ·obtain⟨i,k,h⟩:=h2
   obtain⟨i,k,h⟩:=wU h;exact .inr (.inl ⟨i,k,BZ h1' h,h,h1'⟩)
  ·have h2':∀i k,¬ib (yZ s) l i k:=fun i k h=>h2 ⟨i,k,h⟩
   exact .inr (.inr ⟨B0 h2',h2'⟩)
def iW(l:List (D aA))(s:List UInt8)(i k:Nat)(a b:Int):Prop:=
 wS (nF s) l i k/\((a= -1/\b= -1/\wS (yZ s) l i k)\/∃i0 k0:Nat,a=i0/\b=k0/\mg (yZ s) l i0 k0)
def iW.start(l:List (D aA))(s:List UInt8):iW l s 0 0 (-1) (-1):=
 ⟨fun i' k' h=>by unfold ahead at h;omega,.inl ⟨rfl,rfl,fun i' k' h=>by unfold ahead at h;omega⟩⟩
def wS.next{p:D aR->Prop}{l:List (D aA)}{i k:Nat}(h:wS p l i k)(hn:¬ib p l i k):wS p l i (k+1):=by
 intro i' k' ha hp;by_cases e:i'=i/\k'=k
 ·rw[e.1,e.2]at hp;exact hn hp
 ·exact h i' k' (by unfold ahead at*;omega) hp
def iW.skip{l:List (D aA)}{s:List UInt8}{i k:Nat}{a b:Int}(h:iW l s i k a b)(hn:¬(nth aR (nth aA l i).2.2.1 k).1=s):iW l s i (k+1) a b:=by
 refine⟨h.1.next fun hp=>hn hp.2.2.1,?_⟩;rcases h.2 with⟨h1,h2,h3⟩|h3
 ·exact .inl ⟨h1,h2,h3.next fun hp=>hn hp.2.2⟩
 ·exact .inr h3
def iW.Wn{l:List (D aA)}{s:List UInt8}{i k:Nat}{a b:Int}(h:iW l s i k a b)(hi:i<l.length)(hk:k<(nth aA l i).2.2.1.length)
  (hs:(nth aR (nth aA l i).2.2.1 k).1=s)(hw:(nth aR (nth aA l i).2.2.1 k).2.2.1=false):eA (l,s)=((i:Int),(k:Int)):=
 wV ⟨⟨hi,hk,hs,hw⟩,h.1⟩
def iW.Da{l:List (D aA)}{s:List UInt8}{i k:Nat}{a b:Int}(h:iW l s i k a b)(hi:i<l.length)(hk:k<(nth aA l i).2.2.1.length)
  (hs:(nth aR (nth aA l i).2.2.1 k).1=s)(hw:¬(nth aR (nth aA l i).2.2.1 k).2.2.1=false)(ha:a<0):iW l s i (k+1) (i:Int) (k:Int):=by
 refine⟨h.1.next fun hp=>hw hp.2.2.2,.inr ⟨i,k,rfl,rfl,⟨hi,hk,hs⟩,?_⟩⟩;rcases h.2 with⟨_,_,h3⟩|⟨i0,k0,h1,_⟩
 ·exact h3
 ·omega
def iW.more{l:List (D aA)}{s:List UInt8}{i k:Nat}{a b:Int}(h:iW l s i k a b)
  (hw:¬(nth aR (nth aA l i).2.2.1 k).2.2.1=false)(ha:¬a<0):iW l s i (k+1) a b:=by
 refine⟨h.1.next fun hp=>hw hp.2.2.2,?_⟩;rcases h.2 with⟨h1,_,_⟩|h3
 ·omega
 ·exact .inr h3
def wS.row{p:D aR->Prop}{l:List (D aA)}{i k:Nat}(h:wS p l i k)(hk:(nth aA l i).2.2.1.length<=k):wS p l (i+1) 0:=by
 intro i' k' ha hp;refine h i' k' ?_ hp;unfold ahead at*;by_cases e:i'=i
 ·subst e;have:=hp.2.1;omega
 ·omega
def iW.row{l:List (D aA)}{s:List UInt8}{i k:Nat}{a b:Int}(h:iW l s i k a b)(hk:(nth aA l i).2.2.1.length<=k):iW l s (i+1) 0 a b:=by
 refine⟨h.1.row hk,?_⟩;rcases h.2 with⟨h1,h2,h3⟩|h3
 ·exact .inl ⟨h1,h2,h3.row hk⟩
 ·exact .inr h3
def wS.all{p:D aR->Prop}{l:List (D aA)}{i k:Nat}(h:wS p l i k)(hi:l.length<=i):∀i k,¬ib p l i k:=
 fun i' k' hp=>h i' k' (by have:=hp.1;unfold ahead;omega) hp
def iW.done{l:List (D aA)}{s:List UInt8}{i k:Nat}{a b:Int}(h:iW l s i k a b)(hi:l.length<=i):eA (l,s)=(a,b):=by
 rcases h.2 with⟨rfl,rfl,h3⟩|⟨i0,k0,rfl,rfl,h3⟩
 ·exact B0 (h3.all hi)
 ·exact BZ (h.1.all hi) h3
def jU{p:Nat->Prop}{n:Nat}(h:∀j,j<n->p j)(hn:p n):∀j,j<n+1->p j:=by
 intro j hj;by_cases e:j=n
 ·rw[e];exact hn
 ·exact h j (by omega)
def mX(o:D aA):Prop:=o.1.length<=6/\o.2.1.length<=50/\o.2.2.1.length<=10/\o.2.2.2.1.length<=10/\
 (∀i,i<o.1.length->(nth .str o.1 i).length<=20)/\(∀i,i<o.2.2.1.length->(nth aR o.2.2.1 i).1.length<=20)/\(∀i,i<o.2.2.2.1.length->(nth bB o.2.2.2.1 i).2.2.2.1.length<=20)
def tV(l:List (D aA)):Prop:=l.length<=8/\∀i,i<l.length->mX (nth aA l i)
def yp{l:List (D aA)}{s:List UInt8}(h:0<=(eA (l,s)).1):(eA (l,s)).1<l.length/\0<=(eA (l,s)).2/\(eA (l,s)).2<(nth aA l (eA (l,s)).1.toNat).2.2.1.length/\
  (nth aR (nth aA l (eA (l,s)).1.toNat).2.2.1 (eA (l,s)).2.toNat).1=s:=by
 rcases JK l s with⟨i0,k0,e,f⟩|⟨i0,k0,e,f,n⟩|⟨e,n⟩
 ·rw[e];obtain⟨h1,h2,h3⟩:=f.1;exact⟨by simp only;omega,by simp only;omega,by simp only[dv];omega,h3.1⟩
 ·rw[e];obtain⟨h1,h2,h3⟩:=f.1;exact⟨by simp only;omega,by simp only;omega,by simp only[dv];omega,h3⟩
 ·rw[e]at h;simp at h
end Go.Mrl
namespace Go.Mrl
open Go.Vg
end Go.Mrl
namespace Go.Mrl
open Go.Vg
end Go.Mrl

namespace Go.Mrl
open Go.Vg
end Go.Mrl
namespace Go.Mrl
open Go.Vg
end Go.Mrl
namespace Go.Mrl
open Go.Vg
end Go.Mrl
namespace Go.Mrl
open Go.Vg
end Go.Mrl
namespace Go.Mrl
open Go.Vg
end Go.Mrl
namespace Go.Mrl
open Go.Vg
end Go.Mrl

namespace Go.Mrl
open Go.Vg
def ig(a b:Int×Int×Unit):Bool:=decide (a.2.1<=0) || (decide (b.2.1<=0) || (decide (a.1+a.2.1<=b.1) || decide (b.1+b.2.1<=a.1)))
def JL{a b:Int×Int×Unit}:ig a b=true↔a.2.1<=0\/b.2.1<=0\/a.1+a.2.1<=b.1\/b.1+b.2.1<=a.1:=by simp[ig]
def wW{a b:Int×Int×Unit}:ig a b=false↔0<a.2.1/\0<b.2.1/\b.1<a.1+a.2.1/\a.1<b.1+b.2.1:=by simp[ig]
def cK(n:Int):Int:=(n+15) / 16*16
def oZ(r:Int×Int×Unit):Prop:=-1000000<=r.1/\r.1<=1000000/\-1000000<=r.2.1/\r.2.1<=1000000
def ja(r:D aZ)(l:List (D aZ)):Bool:=l.all (ig r)
def pw{t:Ty}{xs:List (D t)}{i:Nat}(h:i<xs.length):xs[i]?=some (nth t xs i):=by
 rw[List.getElem?_eq_getElem h,<-jc (List.getElem?_eq_getElem h)]
def dV{t:Ty}{xs:List (D t)}{i:Nat}(h:i<xs.length):nth t xs i∈xs:=by
 have:=pw (t:=t) h;exact br this
def gR{t:Ty}{xs:List (D t)}{x:D t}(h:x∈xs):∃i,i<xs.length/\nth t xs i=x:=by
 obtain⟨i,hi,e⟩:=dw h;exact⟨i,hi,by rw[<-e];exact jc (List.getElem?_eq_getElem hi)⟩
def B1{r:D aZ}{l:List (D aZ)}(h:∀j,j<l.length->ig r (nth aZ l j)=true):ja r l=true:=by
 unfold ja;rw[ca];intro x hx;obtain⟨i,hi,e⟩:=gR hx;rw[<-e];exact h i hi
def y5{r:D aZ}{l:List (D aZ)}{j:Nat}(h:j<l.length)(hf:ig r (nth aZ l j)=false):ja r l=false:=by
 unfold ja;rw[c6];exact⟨_,dV h,by rw[hf];decide⟩
def O7{r:D aZ}{l:List (D aZ)}(h:ja r l=false):∃x∈l,ig r x=false:=by
 unfold ja at h;rw[c6]at h;obtain⟨x,hx,e⟩:=h;exact⟨x,hx,by simpa using e⟩
def gy(l:List (D aZ))(many:Int):Nat->Int->Int
 |0,at_=>at_
 |n+1,at_=>if ja (at_,many,()) l=true then at_ else gy l many n (at_+16)
def gS:List (D aZ)->List Int->List Int->Option (List Int)
 |_,[],out=>some out
 |l,n :: r,out=>if 256<gy l (cK n) 40 0+cK n then none else gS (l++[(gy l (cK n) 40 0,cK n,())]) r (out++[gy l (cK n) 40 0])
def AD(s:List Int):Bool:=s.any fun(n:Int)=>decide (n<1) || decide (40<n)
def AE(l:List (D aZ)):Bool:=l.any fun(r:Int×Int×Unit)=>decide (r.1<0) || (decide (256<r.1) || (decide (r.2.1<0) || decide (256<r.2.1)))
def cL(x:List Int×List (D aZ)):List Int×aM:=
 if 6<x.1.length\/20<x.2.length then([],.no 2)else if AD x.1=true\/AE x.2=true then([],.no 1)else
  match gS x.2 x.1 []with
  |some o=>(o,.nil)
  |none=>([],.no 8)
def K6{t:Ty}{xs:List (D t)}{p:D t->Bool}{i:Nat}(h:i<xs.length)(hp:p (nth t xs i)=true):xs.any p=true:=by
 rw[cw];exact⟨_,dV h,hp⟩
def K7{t:Ty}{xs:List (D t)}{p:D t->Bool}(h:∀i,i<xs.length->p (nth t xs i)=false):xs.any p=false:=by
 rw[cy];intro x hx;obtain⟨i,hi,e⟩:=gR hx;rw[<-e,h i hi];decide
def rX{l:List (D aZ)}{s out:List Int}{k:Nat}(h:k<s.length):gS l (s.drop k) out=
  if 256<gy l (cK (nth (.int .i64) s k)) 40 0+cK (nth (.int .i64) s k)then none
  else gS (l++[(gy l (cK (nth (.int .i64) s k)) 40 0,cK (nth (.int .i64) s k),())]) (s.drop (k+1)) (out++[gy l (cK (nth (.int .i64) s k)) 40 0]):=by
 have e:s.drop k=nth (.int .i64) s k :: s.drop (k+1):=by
  rw[eu h];congr 1;exact(jc (t:=.int .i64) (List.getElem?_eq_getElem h)).symm
 rw[e];rfl
def JM{l:List (D aZ)}{s out:List Int}{k:Nat}(h:s.length<=k):gS l (s.drop k) out=some out:=by
 rw[b3 h];rfl
def nR(r:Int×Int×Unit):Prop:=0<=r.1/\r.1<=256/\0<=r.2.1/\r.2.1<=256
def nR.oZ{r:Int×Int×Unit}(h:nR r):Mrl.oZ r:=by
 obtain⟨h1,h2,h3,h4⟩:=h;refine⟨?_,?_,?_,?_⟩ <;> omega
def O8{l:List (D aZ)}{at_ many:Int}(hl:∀x∈l,nR x)(h:ja (at_,many,()) l=false):at_<512:=by
 obtain⟨x,hx,e⟩:=O7 h;obtain⟨h1,h2,h3,h4⟩:=hl x hx;obtain⟨h5,h6,h7,h8⟩:=wW.1 e;have h8:at_<x.1+x.2.1:=h8;omega
def qm{l:List (D aZ)}{many at_:Int}{n:Nat}(h:ja (at_,many,()) l=true):gy l many n at_=at_:=by
 cases n with
 |zero=>rfl
 |succ n=>rw[gy,if_pos h]
def El{l:List (D aZ)}{many at_:Int}{n:Nat}(h:ja (at_,many,()) l=false):gy l many (n+1) at_=gy l many n (at_+16):=by
 rw[gy,if_neg (by rw[h];decide)]
def lu{n:Int}(h1:1<=n)(h2:n<=40):16<=cK n/\cK n<=48:=by unfold cK;omega
end Go.Mrl
namespace Go.Mrl
open Go.Vg
def y7{s:List Int}{l:List (D aZ)}(h:6<s.length\/20<l.length):cL (s,l)=([],.no 2):=by
 unfold cL;rw[if_pos h]
def y8{s:List Int}{l:List (D aZ)}(h:¬(6<s.length\/20<l.length)){i:Nat}(hi:i<s.length)(hb:¬(1<=(nth (.int .i64) s i:Int)/\(nth (.int .i64) s i:Int)<=40)):cL (s,l)=([],.no 1):=by
 unfold cL;rw[if_neg h,if_pos];refine .inl (K6 (t:=.int .i64) hi ?_);simp only[bq,decide_eq_true_eq];generalize nth (.int .i64) s i=x at hb;have hb:¬(1<=(x:Int)/\(x:Int)<=40):=hb;dsimp only[D]at*;omega
def wX{s:List Int}{l:List (D aZ)}(h:¬(6<s.length\/20<l.length)){i:Nat}(hi:i<l.length)(hb:¬nR (nth aZ l i)):cL (s,l)=([],.no 1):=by
 unfold cL;rw[if_neg h,if_pos];refine .inr (K6 (t:=aZ) hi ?_);simp only[bq,decide_eq_true_eq];unfold nR at hb;dsimp only[D]at*;omega
def wY{s:List Int}{l:List (D aZ)}(h:¬(6<s.length\/20<l.length))(hs:∀j,j<s.length->1<=(nth (.int .i64) s j:Int)/\(nth (.int .i64) s j:Int)<=40)(ht:∀j,j<l.length->nR (nth aZ l j)) :
  cL (s,l)=match gS l s []with|some o=>(o,.nil)|none=>([],.no 8):=by
 unfold cL;rw[if_neg h,if_neg];rintro(e|e)
 ·have:AD s=false:=K7 (t:=.int .i64) fun i hi=>by
   have:=hs i hi;simp only[du,decide_eq_false_iff_not];dsimp only[D]at*;omega
  rw[this]at e;cases e
 ·have:AE l=false:=K7 (t:=aZ) fun i hi=>by
   have:=ht i hi;unfold nR at this;simp only[du,decide_eq_false_iff_not];dsimp only[D]at*;omega
  rw[this]at e;cases e
end Go.Mrl
namespace Go.Mrl
open Go.Vg
def Su{l:List (Int×Int×Unit)}{r:Int×Int×Unit}(h:∀y∈l,nR y)(hr:nR r):∀y∈l++[r],nR y:=by
 intro y hy;rcases au.1 hy with hy|hy
 ·exact h y hy
 ·simp at hy;rw[hy];exact hr
end Go.Mrl
namespace Go.Mrl
open Go.Vg
end Go.Mrl
namespace Go.Mrl
open Go.Vg
end Go.Mrl

namespace Go.Mrl
open Go.Vg
def y9{t:Ty}{a b:List (D t)}(hl:a.length=b.length)(h:∀i,i<a.length->nth t a i=nth t b i):a=b:=by
 apply List.ext_getElem hl;intro i h1 h2;have:=h i h1
 rwa [show nth t a i=a[i]from jc (List.getElem?_eq_getElem h1),show nth t b i=b[i]from jc (List.getElem?_eq_getElem h2)]at this
def mG(a b:List Int):Bool:=decide (a=b)
def MC{a b:List Int}(hl:(a.length:Int)=b.length)(h:∀i,i<a.length->nth (.int .i64) a i=nth (.int .i64) b i):true=mG a b:=by
 rw[y9 (t:=.int .i64) (by omega) h];simp[mG]
def O9{a b:List Int}(hl:¬(a.length:Int)=b.length):false=mG a b:=by
 symm;simp only[mG,decide_eq_false_iff_not];intro e;exact hl (by rw[e])
def Sv{a b:List Int}{i:Nat}(h:¬nth (.int .i64) a i=nth (.int .i64) b i):false=mG a b:=by
 symm;simp only[mG,decide_eq_false_iff_not];intro e;exact h (by rw[e])
def Xj{α:Type}{p:Nat->α->Prop}{f:Nat->α}{k:Nat}(h:∀j,j<k->p j (f j))(hk:p k (f k)):∀j,j<k+1->p j (f j):=by
 intro j hj;by_cases e:j=k
 ·subst e;exact hk
 ·exact h j (by omega)
def Pa{p:Nat->Prop}{k:Nat}(h:∀j,j<k->p j)(hk:p k):∀j,j<k+1->p j:=by
 intro j hj;by_cases e:j=k
 ·subst e;exact hk
 ·exact h j (by omega)
def px{t:Ty}{a b:List (D t)}{i:Nat}:nth t (a++b) i=if i<a.length then nth t a i else nth t b (i-a.length):=by
 unfold nth;simp only[List.getD_eq_getElem?_getD,List.getElem?_append];split <;> rfl
def AF{t:Ty}{a:List (D t)}{n i:Nat}(h:i<n):nth t (a.take n) i=nth t a i:=by
 unfold nth;simp only[List.getD_eq_getElem?_getD,List.getElem?_take,if_pos h]
@[reducible] def ji:Ty:=.slice (.int .i64)
@[reducible] def mh:Ty:=.slice ji
abbrev Pt:=Int×Int×Int×Unit
abbrev Ws:=List (List Int)
def tW(w:Ws)(p:Pt):Prop:=0<=p.1/\p.1<w.length/\0<=p.2.1/\p.2.1<(nth ji w p.1.toNat).length
def tj(w:Ws)(p:Pt):Ws:=w.set p.1.toNat ((nth ji w p.1.toNat).set p.2.1.toNat p.2.2.1)
def ly(w:Ws)(l:List Pt):Ws:=l.foldl tj w
open Classical in
def iX(x:Ws×List Pt):Ws×aM:=if ∀i,i<x.2.length->tW x.1 (nth aS x.2 i)then(ly x.1 x.2,.nil)else([],.no 1)
def nG{t:Ty}{l:List (D t)}{i j:Nat}{x:D t}(h:¬i=j):nth t (l.set i x) j=nth t l j:=by
 unfold nth;simp only[List.getD_eq_getElem?_getD];rw[List.getElem?_set_ne h]
def nH{t:Ty}{l:List (D t)}{i:Nat}{x:D t}(h:i<l.length):nth t (l.set i x) i=x:=by
 unfold nth;simp only[List.getD_eq_getElem?_getD];rw[List.getElem?_set_self h];rfl
def JN(w:Ws)(p:Pt):(tj w p).length=w.length:=by simp[tj]
def Sw(w:Ws)(p:Pt)(i:Nat):nth ji (tj w p) i=if i<w.length/\p.1.toNat=i then(nth ji w i).set p.2.1.toNat p.2.2.1 else nth ji w i:=by
 unfold tj;by_cases c:p.1.toNat=i
 ·subst c
  by_cases c2:p.1.toNat<w.length
  ·rw[if_pos ⟨c2,rfl⟩,nH (t:=ji) c2]
  ·rw[if_neg (fun h=>c2 h.1),List.set_eq_of_length_le (by omega)]
 ·rw[if_neg (fun h=>c h.2),nG (t:=ji) c]
def Pb(w:Ws)(p:Pt)(i:Nat):(nth ji (tj w p) i).length=(nth ji w i).length:=by
 rw[Sw];split <;> simp
def qn(l:List Pt):∀w:Ws,(ly w l).length=w.length:=by
 induction l with
 |nil=>intro w;rfl
 |cons p l ih=>intro w;show(ly (tj w p) l).length=_;rw[ih,JN]
def wZ(l:List Pt):∀(w:Ws) (i:Nat),(nth ji (ly w l) i).length=(nth ji w i).length:=by
 induction l with
 |nil=>intro w i;rfl
 |cons p l ih=>intro w i;show(nth ji (ly (tj w p) l) i).length=_;rw[ih,Pb]
def Pc(w:Ws)(l:List Pt)(p:Pt):ly w (l++[p])=tj (ly w l) p:=by simp[ly]
def lK{t:Ty}{l:List (D t)}{k:Nat}(h:k<l.length):l.take (k+1)=l.take k++[nth t l k]:=by
 rw[dx,pw h];rfl
def Pd{w:Ws}{l:List Pt}{k:Nat}(h:k<l.length):tj (ly w (l.take k)) (nth aS l k)=ly w (l.take (k+1)):=by
 rw[lK (t:=aS) h,Pc]
def yq{w:Ws}{l:List Pt}(h:∀i,i<l.length->tW w (nth aS l i)):iX (w,l)=(ly w l,.nil):=by unfold iX;rw[if_pos h]
def Sx{w:Ws}{l:List Pt}{i:Nat}(hi:i<l.length)(h:¬tW w (nth aS l i)):iX (w,l)=([],.no 1):=by
 unfold iX;rw[if_neg (fun hh=>h (hh i hi))]
def Sy{w:Ws}{l:List Pt}(h:(iX (w,l)).2.isNil=true):∀i,i<l.length->tW w (nth aS l i):=by
 unfold iX at h;split at h
 ·assumption
 ·cases h
def Sz{w:Ws}{l:List Pt}(h:(iX (w,l)).2.isNil=true):(iX (w,l)).1.length=w.length:=by rw[yq (Sy h)];exact qn l w
def Small(x:Int):Prop:=-1000000<=x/\x<=1000000
def Word(x:Int):Prop:=-2147483648<=x/\x<=2147483647
def Un(o:D aA):Prop:=o.2.2.2.1.length<=10/\(∀i,i<o.2.2.1.length->Small (nth aR o.2.2.1 i).2.1)/\
 ∀i,i<o.2.2.2.1.length->Small (nth bB o.2.2.2.1 i).1/\Word (nth bB o.2.2.2.1 i).2.2.1
def jN(l:List (D aA)):Prop:=l.length<=8/\∀i,i<l.length->Un (nth aA l i)
def pL(b:List Int):Prop:=∀i,i<b.length->0<=(nth (.int .i64) b i:Int)/\(nth (.int .i64) b i:Int)<=256
def oe(b:List Int)(i:Nat):Int:=nth (.int .i64) b i
def fO(l:List (D aA))(b:List Int)(t:D bB):Int×aM:=
 if 0<=(eA (l,t.2.2.2.1)).1 then(oe b (eA (l,t.2.2.2.1)).1.toNat+(nth aR (nth aA l (eA (l,t.2.2.2.1)).1.toNat).2.2.1 (eA (l,t.2.2.2.1)).2.toNat).2.1,.nil)
 else if t.2.2.2.2.1=true then(0,.nil)else(0,.no 6)
def kn(b:List Int)(i:Int)(t:D bB)(n:Int):Int×aM:=
 if t.2.1=(3:Int)then
  if n-(oe b i.toNat+t.1)< -500\/500<n-(oe b i.toNat+t.1)then(0,.no 7)
  else(n-(oe b i.toNat+t.1),.nil)
 else if n< -2147483648\/2147483647<n then(0,.no 7)else(n,.nil)
def gT(l:List (D aA))(b:List Int)(i:Int)(t:D bB):Int×aM:=
 if t.2.1=(1:Int)then kn b i t (oe b i.toNat+t.2.2.1)
 else if(fO l b t).2.isNil=true then kn b i t ((fO l b t).1+t.2.2.1)else(0,(fO l b t).2)
def og(l:List (D aA))(b:List Int)(i:Nat):List (D bB)->List Pt->List Pt×aM
 |[],out=>(out,.nil)
 |t :: r,out=>if(gT l b i t).2.isNil=true then og l b i r (out++[((i:Int),t.1,(gT l b i t).1,())])else([],(gT l b i t).2)
def oB(f:List Pt->List Pt×aM)(x:List Pt×aM):List Pt×aM:=if x.2.isNil=true then f x.1 else([],x.2)
def nS(l:List (D aA))(b:List Int):List (D aA)->Nat->List Pt->List Pt×aM
 |[],_,out=>(out,.nil)
 |o :: r,i,out=>oB (nS l b r (i+1)) (og l b i o.2.2.2.1 out)
open Classical in
def iC(x:List (D aA)×List Int):List Pt×aM:=
 if ¬x.2.length=x.1.length then([],.no 3)else if pL x.2 then nS x.1 x.2 x.1 0 []else([],.no 1)
def iF{t:Ty}{l:List (D t)}{i:Nat}(h:i<l.length):l.drop i=nth t l i :: l.drop (i+1):=by
 rw[eu h];congr 1;have:=pw h;rw[List.getElem?_eq_getElem h]at this;exact dy this
def Pe{l:List (D aA)}{b:List Int}{i:Nat}{out:List Pt}(h:i<l.length) :
  nS l b (l.drop i) i out=oB (nS l b (l.drop (i+1)) (i+1)) (og l b i ((nth aA l i).2.2.2.1.drop 0) out):=by
 rw[iF (t:=aA) h];rfl
def UY{l:List (D aA)}{b:List Int}{i:Nat}{out:List Pt}(h:l.length<=i):nS l b (l.drop i) i out=(out,.nil):=by
 rw[b3 h];rfl
def Wo{l:List (D aA)}{b:List Int}{i k:Nat}{ts:List (D bB)}{out:List Pt}(h:k<ts.length)(hn:(gT l b i (nth bB ts k)).2.isNil=true) :
  og l b i (ts.drop k) out=og l b i (ts.drop (k+1)) (out++[((i:Int),(nth bB ts k).1,(gT l b i (nth bB ts k)).1,())]):=by
 rw[iF (t:=bB) h,og,if_pos hn]
def UZ{l:List (D aA)}{b:List Int}{i k:Nat}{ts:List (D bB)}{out:List Pt}{f:List Pt->List Pt×aM}(h:k<ts.length)(hn:(gT l b i (nth bB ts k)).2.isNil=false) :
  oB f (og l b i (ts.drop k) out)=([],(gT l b i (nth bB ts k)).2):=by
 rw[iF (t:=bB) h,og,if_neg (by simp[hn])];unfold oB;rw[if_neg (by simp[hn])]
def U0{l:List (D aA)}{b:List Int}{i k:Nat}{ts:List (D bB)}{out:List Pt}{f:List Pt->List Pt×aM}(h:ts.length<=k):oB f (og l b i (ts.drop k) out)=f out:=by
 rw[b3 h];rfl
def Dg{l:List (D aA)}{b:List Int}(h:b.length=l.length)(hb:pL b):iC (l,b)=nS l b l 0 []:=by unfold iC;rw[if_neg (by simpa using h),if_pos hb]
def SA{l:List (D aA)}{b:List Int}(h:¬b.length=l.length):iC (l,b)=([],.no 3):=by unfold iC;rw[if_pos h]
def Pf{l:List (D aA)}{b:List Int}{i:Nat}(h:b.length=l.length)(hi:i<b.length)(hn:¬(0<=(nth (.int .i64) b i:Int)/\(nth (.int .i64) b i:Int)<=256)):iC (l,b)=([],.no 1):=by
 unfold iC;rw[if_neg (by simpa using h),if_neg (fun hh=>hn (hh i hi))]
def pZ{b:List Int}{n:Nat}{i:Int}(hb:pL b)(hl:b.length=n)(h0:0<=i)(h1:i<n):0<=(nth (.int .i64) b i.toNat:Int)/\(nth (.int .i64) b i.toNat:Int)<=256:=hb _ (by omega)
def Pg{l:List (D aA)}{s:List UInt8}(hm:jN l)(h:0<=(eA (l,s)).1):Small (nth aR (nth aA l (eA (l,s)).1.toNat).2.2.1 (eA (l,s)).2.toNat).2.1:=by
 have hf:=yp h;exact(hm.2 _ (by omega)).2.1 _ (by omega)
def B2{l:List (D aA)}{b:List Int}{t:D bB}(h:0<=(eA (l,t.2.2.2.1)).1) :
  fO l b t=(nth (.int .i64) b (eA (l,t.2.2.2.1)).1.toNat+(nth aR (nth aA l (eA (l,t.2.2.2.1)).1.toNat).2.2.1 (eA (l,t.2.2.2.1)).2.toNat).2.1,.nil):=by unfold fO oe;rw[if_pos h]
def zA{l:List (D aA)}{b:List Int}{t:D bB}(h:(eA (l,t.2.2.2.1)).1<0)(hw:t.2.2.2.2.1=true):fO l b t=(0,.nil):=by unfold fO;rw[if_neg (by omega),if_pos hw]
def w4{l:List (D aA)}{b:List Int}{t:D bB}(h:(eA (l,t.2.2.2.1)).1<0)(hw:t.2.2.2.2.1=false):fO l b t=(0,.no 6):=by unfold fO;rw[if_neg (by omega),if_neg (by simp[hw])]
def w5{l:List (D aA)}{b:List Int}(t:D bB)(hm:jN l)(hl:b.length=l.length)(hb:pL b) : -2000000<=(fO l b t).1/\(fO l b t).1<=2000000:=by
 by_cases h:0<=(eA (l,t.2.2.2.1)).1
 ·have h1:=pZ hb hl h (yp h).1
  have h2:=Pg hm h;rw[B2 h];unfold Small at h2;dsimp only[D]at*;omega
 ·cases hw:t.2.2.2.2.1 with
  |true=>rw[zA (by omega) hw];simp
  |false=>rw[w4 (by omega) hw];simp
def AG{l:List (D aA)}{b:List Int}{i:Int}{t:D bB}(h:t.2.1=(1:Int)):gT l b i t=kn b i t (nth (.int .i64) b i.toNat+t.2.2.1):=by unfold gT;rw[if_pos h];rfl
def yr{l:List (D aA)}{b:List Int}{i:Int}{t:D bB}(h:¬t.2.1=(1:Int))(hn:(fO l b t).2.isNil=true):gT l b i t=kn b i t ((fO l b t).1+t.2.2.1):=by unfold gT;rw[if_neg h,if_pos hn]
def U1{l:List (D aA)}{b:List Int}{i:Int}{t:D bB}(h:¬t.2.1=(1:Int))(hn:(fO l b t).2.isNil=false):gT l b i t=(0,(fO l b t).2):=by unfold gT;rw[if_neg h,if_neg (by simp[hn])]
def SB{b:List Int}{i n:Int}{t:D bB}(h:t.2.1=(3:Int))(hr:n-(nth (.int .i64) b i.toNat+t.1)< -500\/500<n-(nth (.int .i64) b i.toNat+t.1)):kn b i t n=(0,.no 7):=by
 unfold kn oe;rw[if_pos h,if_pos hr]
def U2{b:List Int}{i n m:Int}{t:D bB}(h:t.2.1=(3:Int))(e:m=n-(nth (.int .i64) b i.toNat+t.1))(hr : -500<=m/\m<=500):kn b i t n=(m,.nil):=by
 unfold kn oe;rw[if_pos h,if_neg (by omega),e]
def Hb{b:List Int}{i n:Int}{t:D bB}(h:¬t.2.1=(3:Int))(hr:n< -2147483648\/2147483647<n):kn b i t n=(0,.no 7):=by
 unfold kn;rw[if_neg h,if_pos hr]
def Dh{b:List Int}{i n m:Int}{t:D bB}(h:¬t.2.1=(3:Int))(e:m=n)(hr : -2147483648<=n/\n<=2147483647):kn b i t n=(m,.nil):=by
 unfold kn;rw[if_neg h,if_neg (by omega),e]
def Told(e:aM):Prop:=yn e (jy e)=true
def Em(b:List Int)(i n:Int)(t:D bB):Told (kn b i t n).2:=by
 unfold kn;split <;> split <;> rfl
def JO(l:List (D aA))(b:List Int)(t:D bB):Told (fO l b t).2:=by
 unfold fO;split
 ·rfl
 ·split <;> rfl
def SC(l:List (D aA))(b:List Int)(i:Int)(t:D bB):Told (gT l b i t).2:=by
 unfold gT;split
 ·exact Em _ _ _ _
 ·split
  ·exact Em _ _ _ _
  ·exact JO _ _ _
def Hc(l:List (D aA))(b:List Int)(i:Nat):∀(ts:List (D bB)) (out:List Pt),Told (og l b i ts out).2
 |[],_=>rfl
 |t :: r,out=>by
  rw[og];split
  ·exact Hc l b i r _
  ·exact SC _ _ _ _
def Hd(l:List (D aA))(b:List Int):∀(os:List (D aA)) (i:Nat) (out:List Pt),Told (nS l b os i out).2
 |[],_,_=>rfl
 |o :: r,i,out=>by
  rw[nS];unfold oB;split
  ·exact Hd l b r _ _
  ·exact Hc _ _ _ _ _
def He(x:List (D aA)×List Int):yn (iC x).2 (jy (iC x).2)=true:=by
 unfold iC;split
 ·rfl
 ·split
  ·exact Hd _ _ _ _ _
  ·rfl
def ic(n:Int):Bool:=decide (-2147483648<=n)&&decide (n<=2147483647)
def jz:List (List UInt8)->List (List UInt8)->Int
 |_,[]=>0
 |p,s :: r=>if aN s > 0 then aN s else if p.any (· == s)=true then 3 else jz (p++[s]) r
def kO:List Int->Int
 |[]=>0
 |n :: r=>if ic n=true then kO r else 1
def ie(n:Nat):List (D aR)->List (D aR)->Int
 |_,[]=>0
 |p,s :: r=>if aN s.1 > 0 then aN s.1 else if s.2.1<0\/s.2.1>=(n:Int)then 1 else if p.any (fun x=>x.1 == s.1)=true then 3 else ie n (p++[s]) r
def oh(a:Int):Option Int->Bool
 |some b=>decide (a<=b)
 |none=>false
def mY(n:Nat)(prev:Option Int)(t:D bB):Int:=
 if t.1<0\/t.1>=(n:Int)\/ic t.2.2.1=false then 1
 else if t.2.1<1\/t.2.1 > 3\/oh t.1 prev=true then 3
 else if t.2.1=1 then(if t.2.2.2.1≠[]\/t.2.2.2.2.1=true then 3 else 0)
 else aN t.2.2.2.1
def kP(n:Nat):Option Int->List (D bB)->Int
 |_,[]=>0
 |prev,t :: r=>if mY n prev t≠0 then mY n prev t else kP n (some t.1) r
def lW(o:D aA):Prop:=o.1.length > 4\/o.2.1.length<1\/o.2.1.length > 40\/o.2.2.1.length > 8\/o.2.2.2.1.length > 6
instance(o:D aA):Decidable (lW o):=by unfold lW;infer_instance
def cX(o:D aA):Int:=
 if lW o then 2 else if jz [] o.1≠0 then jz [] o.1 else if kO o.2.1≠0 then kO o.2.1
 else if ie o.2.1.length [] o.2.2.1≠0 then ie o.2.1.length [] o.2.2.1 else kP o.2.1.length none o.2.2.2.1
def iG{t:Ty}{l:List (D t)}{i:Nat}(h:i<l.length):l.take (i+1)=l.take i++[nth t l i]:=by
 rw[dx];congr 1;unfold nth;simp[h]
def w6(n:Nat):∀(l p:List (D aR)),0<=ie n p l
 |[],_=>az _
 |s :: r,p=>by
  unfold ie;split
  ·omega
  ·split
   ·decide
   ·split
    ·decide
    ·exact w6 n r _
structure ke (l:List (List UInt8)) (i:Nat):Prop where
 le:i<=l.length
 eq:jz (l.take i) (l.drop i)=jz [] l
def ke.zero(l:List (List UInt8)):ke l 0:=⟨ar _,rfl⟩
def ke.fault{l:List (List UInt8)}{i:Nat}(h:ke l i)(hi:i<l.length)(hf:aN (nth .str l i) > 0):jz [] l=aN (nth .str l i):=by
 rw[<-h.eq,iF (t:=.str) hi];unfold jz;rw[if_pos hf]
def ke.dup{l:List (List UInt8)}{i:Nat}(h:ke l i)(hi:i<l.length)(hf:aN (nth .str l i)<=0)(ha:(l.take i).any (· == nth .str l i)=true):jz [] l=3:=by
 rw[<-h.eq,iF (t:=.str) hi];unfold jz;rw[if_neg (by omega),if_pos ha]
def ke.next{l:List (List UInt8)}{i:Nat}(h:ke l i)(hi:i<l.length)(hf:aN (nth .str l i)<=0)(ha:(l.take i).any (· == nth .str l i)=false):ke l (i+1):=by
 refine⟨hi,?_⟩;rw[<-h.eq,iF (t:=.str) hi,iG (t:=.str) hi]
 conv=>rhs;unfold jz
 rw[if_neg (by omega),if_neg (by rw[ha];decide)]
def ke.done{l:List (List UInt8)}{i:Nat}(h:ke l i)(hi:¬i<l.length):jz [] l=0:=by
 rw[<-h.eq,b3 (by omega)];rfl
structure lz (l:List Int) (i:Nat):Prop where
 le:i<=l.length
 eq:kO (l.drop i)=kO l
def lz.zero(l:List Int):lz l 0:=⟨ar _,rfl⟩
def lz.fault{l:List Int}{i:Nat}(h:lz l i)(hi:i<l.length)(hf:ic (nth (.int .i64) l i)=false):kO l=1:=by
 rw[<-h.eq,iF (t:=.int .i64) hi];unfold kO;rw[if_neg (by rw[hf];decide)]
def lz.next{l:List Int}{i:Nat}(h:lz l i)(hi:i<l.length)(hf:ic (nth (.int .i64) l i)=true):lz l (i+1):=by
 refine⟨hi,?_⟩;rw[<-h.eq,iF (t:=.int .i64) hi]
 conv=>rhs;unfold kO
 rw[if_pos hf]
def lz.done{l:List Int}{i:Nat}(h:lz l i)(hi:¬i<l.length):kO l=0:=by
 rw[<-h.eq,b3 (by omega)];rfl
structure kQ (n:Nat) (l:List (D aR)) (i:Nat):Prop where
 le:i<=l.length
 eq:ie n (l.take i) (l.drop i)=ie n [] l
def kQ.zero(n:Nat)(l:List (D aR)):kQ n l 0:=⟨ar _,rfl⟩
def kQ.fault{n:Nat}{l:List (D aR)}{i:Nat}(h:kQ n l i)(hi:i<l.length)(hf:aN (nth aR l i).1 > 0):ie n [] l=aN (nth aR l i).1:=by
 rw[<-h.eq,iF (t:=aR) hi];unfold ie;rw[if_pos hf]
def kQ.out{n:Nat}{l:List (D aR)}{i:Nat}(h:kQ n l i)(hi:i<l.length)(hf:aN (nth aR l i).1<=0)(ho:(nth aR l i).2.1<0\/(nth aR l i).2.1>=(n:Int)):ie n [] l=1:=by
 rw[<-h.eq,iF (t:=aR) hi];unfold ie;rw[if_neg (by omega),if_pos ho]
def kQ.dup{n:Nat}{l:List (D aR)}{i:Nat}(h:kQ n l i)(hi:i<l.length)(hf:aN (nth aR l i).1<=0)(ho:¬((nth aR l i).2.1<0\/(nth aR l i).2.1>=(n:Int)))
  (ha:(l.take i).any (fun x=>x.1 == (nth aR l i).1)=true):ie n [] l=3:=by
 rw[<-h.eq,iF (t:=aR) hi];unfold ie;rw[if_neg (by omega),if_neg ho,if_pos ha]
def kQ.next{n:Nat}{l:List (D aR)}{i:Nat}(h:kQ n l i)(hi:i<l.length)(hf:aN (nth aR l i).1<=0)(ho:¬((nth aR l i).2.1<0\/(nth aR l i).2.1>=(n:Int)))
  (ha:(l.take i).any (fun x=>x.1 == (nth aR l i).1)=false):kQ n l (i+1):=by
 refine⟨hi,?_⟩;rw[<-h.eq,iF (t:=aR) hi,iG (t:=aR) hi]
 conv=>rhs;unfold ie
 rw[if_neg (by omega),if_neg ho,if_neg (by rw[ha];decide)]
def kQ.done{n:Nat}{l:List (D aR)}{i:Nat}(h:kQ n l i)(hi:¬i<l.length):ie n [] l=0:=by
 rw[<-h.eq,b3 (by omega)];rfl
def oC(l:List (D bB))(i:Nat):Option Int:=if i=0 then none else some (nth bB l (i-1)).1
structure nI (n:Nat) (l:List (D bB)) (i:Nat):Prop where
 le:i<=l.length
 eq:kP n (oC l i) (l.drop i)=kP n none l
def nI.zero(n:Nat)(l:List (D bB)):nI n l 0:=⟨ar _,rfl⟩
def nI.fault{n:Nat}{l:List (D bB)}{i:Nat}(h:nI n l i)(hi:i<l.length){f:Int}(hf:mY n (oC l i) (nth bB l i)=f)(h0:f≠0):kP n none l=f:=by
 rw[<-h.eq,iF (t:=bB) hi];unfold kP;rw[if_pos (by rw[hf];exact h0),hf]
def nI.next{n:Nat}{l:List (D bB)}{i:Nat}(h:nI n l i)(hi:i<l.length)(hf:mY n (oC l i) (nth bB l i)=0):nI n l (i+1):=by
 refine⟨hi,?_⟩;rw[<-h.eq,iF (t:=bB) hi]
 conv=>rhs;unfold kP
 rw[if_neg (by rw[hf];decide)];rfl
def nI.done{n:Nat}{l:List (D bB)}{i:Nat}(h:nI n l i)(hi:¬i<l.length):kP n none l=0:=by
 rw[<-h.eq,b3 (by omega)];rfl
def Hf{t:Ty}{l:List (D t)}{i j:Nat}{f:D t->Bool}(hj:j<i)(hi:i<=l.length)(h:f (nth t l j)=true):(l.take i).any f=true:=by
 rw[cw];refine⟨nth t l j,?_,h⟩;have:(l.take i)[j]?=some (nth t l j):=by
  rw[List.getElem?_take,if_pos hj];unfold nth;rw[List.getD_eq_getElem?_getD,List.getElem?_eq_getElem (by omega)];rfl
 exact br this
def En{t:Ty}{l:List (D t)}{i:Nat}{f:D t->Bool}(h:∀j,j<i->f (nth t l j)=false):(l.take i).any f=false:=by
 rw[cy];intro x hx;obtain⟨j,hj,rfl⟩:=dw hx;rw[bh]at hj;have:=h j (by omega);rw[List.getElem_take];have e:nth t l j=l[j]'(by omega):=by unfold nth;simp[show j<l.length by omega]
 rw[e]at this;rw[this];decide
def contains_of{l:List (List UInt8)}{s:List UInt8}{y:Int}(h:(y= -1/\∀j,j<l.length->nth .str l j≠s)\/(0<=y/\y.toNat<l.length/\nth .str l y.toNat=s)):decide (y>=0)=l.any (· == s):=by
 rcases h with⟨rfl,h⟩|⟨h1,h2,h3⟩
 ·have:=En (t:=.str) (l:=l) (i:=l.length) (f:=(· == s)) fun j hj=>by simpa using h j hj
  rw[cb]at this;rw[this];rfl
 ·have:=Hf (t:=.str) (l:=l) (i:=l.length) (f:=(· == s)) h2 (ak _) (by simpa using h3)
  rw[cb]at this;rw[this];simpa using h1
def JP{o:D aA}(h:lW o):cX o=2:=by unfold cX;rw[if_pos h]
def w7{o:D aA}(h:¬lW o){f:Int}(hf:jz [] o.1=f)(h0:f≠0):cX o=f:=by unfold cX;rw[if_neg h,if_pos (by rw[hf];exact h0),hf]
def Hg{o:D aA}(h:¬lW o)(h1:jz [] o.1=0){f:Int}(hf:kO o.2.1=f)(h0:f≠0):cX o=f:=by
 unfold cX;rw[if_neg h,if_neg (by rw[h1];decide),if_pos (by rw[hf];exact h0),hf]
def JQ{o:D aA}(h:¬lW o)(h1:jz [] o.1=0)(h2:kO o.2.1=0){f:Int}(hf:ie o.2.1.length [] o.2.2.1=f)(h0:f≠0):cX o=f:=by
 unfold cX;rw[if_neg h,if_neg (by rw[h1];decide),if_neg (by rw[h2];decide),if_pos (by rw[hf];exact h0),hf]
def JR{o:D aA}(h:¬lW o)(h1:jz [] o.1=0)(h2:kO o.2.1=0)(h3:ie o.2.1.length [] o.2.2.1=0){f:Int}(hf:kP o.2.1.length none o.2.2.2.1=f):cX o=f:=by
 unfold cX;rw[if_neg h,if_neg (by rw[h1];decide),if_neg (by rw[h2];decide),if_neg (by rw[h3];decide),hf]
abbrev aD:=List UInt8
def pM(a b:aD):Prop:=bu a b=true
def Hh(a:UInt8):¬a<a:=fun h=>by have:=dz.1 h;omega
def py:∀a:aD,¬pM a a
 |[]=>fun h=>by cases h
 |a :: x=>fun h=>by
  unfold pM at h;simp only[bu,bq,decide_eq_true_eq,af]at h;rcases h with h|⟨_,h⟩
  ·exact Hh a h
  ·exact py x h
def w8:∀{a b c:aD},pM a b->pM b c->pM a c
 |a,[],_,h,_=>by unfold pM at h;cases a <;> simp[bu]at h
 |_,_ :: _,[],_,h=>by unfold pM at h;simp[bu]at h
 |[],_ :: _,_ :: _,_,_=>rfl
 |a :: x,b :: y,c :: z,h1,h2=>by
  unfold pM at h1 h2 ⊢;simp only[bu,bq,decide_eq_true_eq,af,beq_iff_eq]at h1 h2 ⊢;rcases h1 with h1|⟨rfl,h1⟩
  ·rcases h2 with h2|⟨rfl,h2⟩
   ·left;rw[dz]at*;omega
   ·exact .inl h1
  ·rcases h2 with h2|⟨rfl,h2⟩
   ·exact .inl h2
   ·exact .inr ⟨rfl,w8 h1 h2⟩
def w9:∀{a b:aD},¬pM a b->¬pM b a->a=b
 |[],[],_,_=>rfl
 |[],_ :: _,h,_=>(h rfl).elim
 |_ :: _,[],_,h=>(h rfl).elim
 |a :: x,b :: y,h1,h2=>by
  unfold pM at h1 h2;simp only[bu,bq,decide_eq_true_eq,af,beq_iff_eq,not_or,not_and]at h1 h2;have hab:a=b:=by
   apply UInt8.toNat_inj.1;have h3:=h1.1;have h4:=h2.1;rw[dz]at h3 h4;omega
  subst hab;rw[w9 (h1.2 rfl) (h2.2 rfl)]
def B3(a b:aD):Prop:=¬pM b a
def Hi(a:aD):B3 a a:=py a
def Eo{a b:aD}(h:pM a b):B3 a b:=fun h'=>py a (w8 h h')
def Ph{a b c:aD}(h1:B3 a b)(h2:B3 b c):B3 a c:=by
 intro h;by_cases hab:pM a b
 ·exact h2 (w8 h hab)
 ·have:=w9 hab h1;subst this;exact h2 h
def xa{a b:aD}(h1:B3 a b)(h2:a≠b):pM a b:=aq fun h=>h2 (w9 h h1)
abbrev Dk:=(Int×Bool×Unit)×(List (List UInt8)×(List (List UInt8)×(List (Int×List UInt8×Unit)×Unit)))
def xb(x:Int×Int):Int×Int:=(0,x.1*x.2)
def eI(s:List UInt8):List UInt8:=s++bb (64-s.length) 0
def stepOf(d:Dk):Dk×Int:=
 if d.1.2.1=true then(d,9)else if d.1.1=0 then(((-1,true,()),d.2),9)else(((if 0<d.1.1 then d.1.1-1 else d.1.1,false,()),d.2),0)
def bL(d:Dk)(at_:Int)(s:List UInt8):Dk×Int:=
 if at_<0\/(d.2.2.1.length:Int)<=at_\/64<s.length then(d,1)
 else if(stepOf d).2=0 then(((stepOf d).1.1,d.2.1,d.2.2.1.set at_.toNat (eI s),d.2.2.2.1++[(at_,eI s,())],()),0)else stepOf d
def qo(d:Dk)(at_:Int):List UInt8×Int:=
 if d.1.2.1=true then([],9)else if at_<0\/(d.2.2.1.length:Int)<=at_ then([],1)else(nth .str d.2.2.1 at_.toNat,0)
def bP(d:Dk):Dk×Int:=
 if(stepOf d).2=0 then(((stepOf d).1.1,d.2.2.1,d.2.2.1,[],()),0)else stepOf d
def Wp(d:Dk)(n:Int):Dk:=((Ma n (-1),d.1.2.1,()),d.2)
def Gc(k:Int)(i:Nat):Prop:=(dT .u64 ((b4 a7.bits (k.fdiv (2^(i % 64)))&&&b4 a7.bits 1).toNat:Int))=1
open Classical in
def kR(k:Int)(wait:List (Int×List UInt8×Unit))(kept:List (List UInt8)):Nat->List (List UInt8)
 |0=>kept
 |n+1=>if Gc k n then(kR k wait kept n).set (nth jr wait n).1.toNat (nth jr wait n).2.1 else kR k wait kept n
def Hj(d:Dk)(k:Int):Dk:=
 ((-1,false,()),kR k d.2.2.2.1 d.2.1 d.2.2.2.1.length,kR k d.2.2.2.1 d.2.1 d.2.2.2.1.length,[],())
def qV(n:Int):Dk:=((-1,false,()),bb n.toNat (eI []),bb n.toNat (eI []),[],())
def xc(k:Int)(wait:List (Int×List UInt8×Unit))(kept:List (List UInt8)):∀n,(kR k wait kept n).length=kept.length
 |0=>rfl
 |n+1=>by unfold kR;split <;> simp[xc k wait kept n]
def eV(d:Dk):(stepOf d).1.2=d.2:=by
 unfold stepOf;split
 ·rfl
 ·split <;> rfl
def MD(n:Nat):bytesOf (bb n 0)=bb n 0:=by
 unfold bytesOf;rw[List.map_replicate];rfl
def lA{a:Int}(h0:0<=a)(h:a<18446744073709551616):a7.wrap a=a:=
 x6 (by simp[dp,dq,dr,dt];omega)
def Hk{a:Int}(h0:0<=a)(h:a<18446744073709551616):(b4 a7.bits a).toNat=a.toNat:=by
 rw[BitVec.toNat_ofInt];show(a % (2^64:Nat)).toNat=a.toNat;rw[Int.emod_eq_of_lt h0 (by simpa using h)]
def SD{a x:Int}(hx:x=dT .u64 ((b4 a7.bits a&&&b4 a7.bits 4294967295).toNat:Int))(h0:0<=a)(h:a<4294967296):x=a:=by
 rw[BitVec.toNat_and,Hk h0 (by omega),Hk (by omega) (by omega)]at hx;rw[show(4294967295:Int).toNat=2^32-1 from rfl,Nat.and_two_pow_sub_one_eq_mod,Nat.mod_eq_of_lt (by omega),ew h0,lA h0 (by omega)]at hx;exact hx
def Hl{a x:Int}{n:Nat}(hx:x=a.fdiv (2^(min n a7.bits)))(hn:n=32)(h0:0<=a)(h:a<4294967296):x=0:=by
 subst hn;rw[show min 32 a7.bits=32 from rfl,Int.fdiv_eq_ediv_of_nonneg _ (by decide),Int.ediv_eq_zero_of_lt h0 (by simpa using h)]at hx;exact hx
def lX(s:List UInt8)(n k:Nat):List (List UInt8):=bb k s++bb (n-k) []
def Hm{s:List UInt8}{n k:Nat}(h:k<=n):(lX s n k).length=n:=by simp[lX];omega
def ME{s:List UInt8}{n:Nat}(hn:0<n){k:Nat}(hk:k=1)(x:List (List UInt8))(hx:x=[s]):(bb n ([]:List UInt8)).take 0++x.take k++(bb n []).drop (0+k)=lX s n 1:=by
 subst hk;subst hx;simp[lX]
def Pj{s:List UInt8}{n k m:Nat}(hk:k+m<=n)(hm:m<=k):(lX s n k).take k++((lX s n k).take k).take m++(lX s n k).drop (k+m)=lX s n (k+m):=by
 have h1:(lX s n k).take k=bb k s:=by
  unfold lX;rw[List.take_append_of_le_length (by simp),cg (by simp)]
 rw[h1,List.take_replicate,c7 hm];unfold lX;rw[List.drop_append,List.drop_of_length_le (by simp),ey,List.drop_replicate,List.length_replicate,<-List.replicate_append_replicate];rw[show n-k-(k+m-k)=n-(k+m) by omega]
def Pk{s:List UInt8}{n:Nat}:lX s n n=bb n s:=by simp[lX]
def aQ{n:Int}:(aI n).isNil=true↔n=0:=by
 unfold aI;split
 ·rename_i h;simp[h,aM.isNil]
 ·rename_i h;simp[h,aM.isNil]
def MF{d:Dk}{at_:Int}{s:List UInt8}(h:at_<0\/(d.2.2.1.length:Int)<=at_\/64<s.length):bL d at_ s=(d,1):=by unfold bL;rw[if_pos h]
def JS{d:Dk}{at_:Int}{s:List UInt8}(h:¬(at_<0\/(d.2.2.1.length:Int)<=at_\/64<s.length))(h2:¬(stepOf d).2=0):bL d at_ s=stepOf d:=by unfold bL;rw[if_neg h,if_neg h2]
def Pl{d:Dk}{at_:Int}{s:List UInt8}(h:¬(at_<0\/(d.2.2.1.length:Int)<=at_\/64<s.length))(h2:(stepOf d).2=0) :
  bL d at_ s=(((stepOf d).1.1,d.2.1,d.2.2.1.set at_.toNat (eI s),d.2.2.2.1++[(at_,eI s,())],()),0):=by unfold bL;rw[if_neg h,if_pos h2]
def U3{t:Ty}{l:List (D t)}{i:Nat}{x:D t}(h:i<l.length):nth t (l.set i x) i=x:=by
 unfold nth;simp[List.getD_eq_getElem?_getD,h]
def Hn{a b:List (List UInt8)}(h:a.length=b.length):a.take 0++b.take (min b.length a.length)++a.drop (0+min b.length a.length)=b:=by
 rw[h,Nat.min_self];simp[h]
def SE{k:Int}{i n:Nat}{x y:Int}(hx:x=k.fdiv (2^(min n a7.bits)))(hn:n=i % 64)(hy:y=dT .u64 ((b4 a7.bits x&&&b4 a7.bits 1).toNat:Int)):y=1↔Gc k i:=by
 subst hn;have:min (i % 64) a7.bits=i % 64:=c7 (by show i % 64<=64;omega);rw[this]at hx;subst hx;subst hy;exact Iff.rfl
def SF{k:Int}{wait:List (Int×List UInt8×Unit)}{kept:List (List UInt8)}{n:Nat}(h:Gc k n):(kR k wait kept n).set (nth jr wait n).1.toNat (nth jr wait n).2.1=kR k wait kept (n+1):=by
 rw[kR,if_pos h]
def Pm{k:Int}{wait:List (Int×List UInt8×Unit)}{kept:List (List UInt8)}{n:Nat}(h:¬Gc k n):kR k wait kept n=kR k wait kept (n+1):=by
 rw[kR,if_neg h]
def JT{d:Dk}(h:d.1.2.1=true):stepOf d=(d,9):=by unfold stepOf;rw[if_pos h]
def JU{d:Dk}(h:d.1.2.1=false)(h0:d.1.1=0):stepOf d=(((-1,true,()),d.2),9):=by unfold stepOf;rw[if_neg (by rw[h];decide),if_pos h0]
def Pn{d:Dk}(h:d.1.2.1=false)(h0:¬d.1.1=0)(hf : -1<=d.1.1):stepOf d=(((if(-1:Int) > d.1.1-1 then(-1:Int)else d.1.1-1,d.1.2.1,()),d.2),0):=by
 unfold stepOf;rw[if_neg (by rw[h];decide),if_neg h0,h];by_cases c:0<d.1.1
 ·rw[if_pos c,if_neg (by omega)]
 ·rw[if_neg c,if_pos (by omega),show d.1.1= -1 by omega]
def MG{d:Dk}{a:Int}(h:d.1.2.1=true):qo d a=([],9):=by unfold qo;rw[if_pos h]
def Po{d:Dk}{a:Int}(h:d.1.2.1=false)(h2:a<0\/(d.2.2.1.length:Int)<=a):qo d a=([],1):=by unfold qo;rw[if_neg (by rw[h];decide),if_pos h2]
def SG{d:Dk}{a:Int}(h:d.1.2.1=false)(h2:¬(a<0\/(d.2.2.1.length:Int)<=a)):qo d a=(nth .str d.2.2.1 a.toNat,0):=by unfold qo;rw[if_neg (by rw[h];decide),if_neg h2]
def Ep{d:Dk}(h:(stepOf d).2=0):bP d=(((stepOf d).1.1,d.2.2.1,d.2.2.1,[],()),0):=by unfold bP;rw[if_pos h]
def zB{d:Dk}(h:¬(stepOf d).2=0):bP d=stepOf d:=by unfold bP;rw[if_neg h]
def Uo(i:Nat):cc ((i:Int).tmod 64)=i % 64:=by rw[ez (by omega)];omega
def lB{a:Int}(h0 : -9223372036854775808<=a)(h:a<9223372036854775808):IntKind.i64.wrap a=a:=
 x6 (by rw[rr];unfold aJ;omega)
end Go.Mrl
namespace Go.Mrl
open Go.Vg
def rY(e:D aC):Prop:=e.1.length<=20/\e.2.1.length<=8/\e.2.2.1.length<=40/\∀i,i<e.2.1.length->(nth aG e.2.1 i).1.length<=20
def xe(a:D dB):Prop:=a.2.1.length<=100/\a.2.2.1.length<=1300/\rY a.2.2.2.2.2.1
def rv(l:List (D dB))(m:Int):Prop:=(l.length:Int)<=m/\∀i,i<l.length->xe (nth dB l i)
end Go.Mrl

namespace Go.Mrl
open Go.Vg
@[reducible] def cI:Ty:=.prod .str (.prod (.int .i64) .unit)
abbrev FE:=aD×(aD×Int×Unit)×Int×Unit
abbrev dA:=(Int×Unit)×(List FE×Int×Unit)×Unit
def qp(y:FE):Int:=y.2.2.1
def pz(y:FE):aD:=y.1
def aL(x:dA)(s:aD):aD×Int×Int:=
 if cT cI x.2.1.1 s=true then((iV cI x.2.1.1 s).1,(iV cI x.2.1.1 s).2.1,0)else([],0,5)
def cJ(x:dA)(s t:aD):dA×Int:=
 if ¬aN s=0 then(x,aN s)else if 1200<t.length then(x,2)
 else if(cT cI x.2.1.1 s=false/\x.2.1.1.length=6)\/x.1.1=1000000 then(x,8)
 else(((x.1.1+1,()),(eS cI x.2.1.1 s (t,x.1.1+1,()) x.2.1.2.1,mQ cI x.2.1.1 s x.2.1.2.1,()),()),0)
def fE(x:dA)(s:aD):dA×Int:=
 if cT cI x.2.1.1 s=true then((x.1,(fU cI x.2.1.1 s,x.2.1.2.1,()),()),0)else(x,5)
def qq:dA:=((0,()),([],0,()),())
def lL{x:dA}{s:aD}(h:cT cI x.2.1.1 s=false):aL x s=([],0,5):=by unfold aL;rw[if_neg (by rw[h];simp)]
def pA{x:dA}{s:aD}(h:cT cI x.2.1.1 s=true):aL x s=((iV cI x.2.1.1 s).1,(iV cI x.2.1.1 s).2.1,0):=by unfold aL;rw[if_pos h]
def xf{x:dA}{s t:aD}(h:¬aN s=0):cJ x s t=(x,aN s):=by unfold cJ;rw[if_pos h]
def xg{x:dA}{s t:aD}(h:aN s=0)(h1:1200<t.length):cJ x s t=(x,2):=by unfold cJ;rw[if_neg (by simp[h]),if_pos h1]
def xh{x:dA}{s t:aD}(h:aN s=0)(h1:¬1200<t.length)(h2:(cT cI x.2.1.1 s=false/\x.2.1.1.length=6)\/x.1.1=1000000):cJ x s t=(x,8):=by unfold cJ;rw[if_neg (by simp[h]),if_neg h1,if_pos h2]
def B4{x:dA}{s t:aD}(h:aN s=0)(h1:¬1200<t.length)(h2:¬((cT cI x.2.1.1 s=false/\x.2.1.1.length=6)\/x.1.1=1000000)) :
  cJ x s t=(((x.1.1+1,()),(eS cI x.2.1.1 s (t,x.1.1+1,()) x.2.1.2.1,mQ cI x.2.1.1 s x.2.1.2.1,()),()),0):=by unfold cJ;rw[if_neg (by simp[h]),if_neg h1,if_neg h2]
def mv{x:dA}{s:aD}(h:cT cI x.2.1.1 s=false):fE x s=(x,5):=by unfold fE;rw[if_neg (by rw[h];simp)]
def lC{x:dA}{s:aD}(h:cT cI x.2.1.1 s=true):fE x s=((x.1,(fU cI x.2.1.1 s,x.2.1.2.1,()),()),0):=by unfold fE;rw[if_pos h]
theorem Er{α:Type}[DecidableEq α]:∀{a b:List α},a.Nodup->(∀y∈a,y∈b)->a.length<=b.length
 |[],_,_,_=>by simp
 |x :: a,b,hn,hs=>by
  have hn':=ch.1 hn;have h1:(b.erase x).length=b.length-1:=List.length_erase_of_mem (hs x (by simp));have h2:0<b.length:=List.length_pos_of_mem (hs x (by simp));have:=Er (b:=b.erase x) hn'.2 fun y hy=>(List.mem_erase_of_ne (fun(e:y=x)=>hn'.1 (by rw[<-e];exact hy))).2 (hs y (by simp[hy]))
  simp only[cj];omega
abbrev RF:=aD×aD×Int×Unit
abbrev RS:=List RF×Int×Unit
def yt(y:RF):aD:=y.1
def ko(s:aD)(y:RF):Bool:=!(y.1 == s)
def rh:List RF->aD->aD×Int×Int
 |[],_=>([],0,5)
 |y :: r,s=>if y.1=s then(y.2.1,y.2.2.1,0)else rh r s
def tl(s:aD)(e:RF):List RF->List RF
 |[]=>[e]
 |y :: r=>if(bu s y.1 || s == y.1)=true then e :: (y :: r).filter (ko s)else y :: tl s e r
def tX(x:RS)(s t:aD):RS×Int:=
 if ¬aN s=0 then(x,aN s)else if 1200<t.length then(x,2)
 else if(0<(rh x.1 s).2.2/\x.1.length=6)\/x.2.1=1000000 then(x,8)
 else((tl s (s,t,x.2.1+1,()) x.1,x.2.1+1,()),0)
def yu(x:RS)(s:aD):RS×Int:=if(x.1.filter (ko s)).length=x.1.length then(x,5)else((x.1.filter (ko s),x.2),0)
def sK(y:FE):RF:=(y.1,y.2.1.1,y.2.1.2.1,())
def tY(L:List RF):Prop:=L.Pairwise fun a b=>pM a.1 b.1
structure fZ (x:dA) (r:RS):Prop where
 now:r.2.1=x.1.1
 lo:0<=x.1.1
 hi:x.1.1<=1000000
 len:x.2.1.1.length<=6
 born:(x.2.1.1.map qp).Nodup
 old:∀y∈x.2.1.1,qp y<x.2.1.2.1
 Ho:tY r.1
 perm:r.1.Perm (x.2.1.1.map sK)
def fZ.new:fZ qq ([],0,()):=⟨rfl,az _,by decide,by decide,by decide,fun y hy=>by simp[qq]at hy,.nil,.refl _⟩
def xi{L:List RF}(h:tY L):(L.map yt).Nodup:=by
 unfold List.Nodup;rw[List.pairwise_map];exact h.imp fun hlt e=>by unfold yt at e;rw[e]at hlt;exact py _ hlt
def fZ.names{x:dA}{r:RS}(h:fZ x r):(x.2.1.1.map pz).Nodup:=by
 have h1:=(h.perm.map yt).nodup_iff.1 (xi h.Ho);rw[dn]at h1;exact h1
def Es:∀{L:List RF} {s:aD},(L.map yt).Nodup->∀y∈L,y.1=s->rh L s=(y.2.1,y.2.2.1,0)
 |[],_,_,_,h,_=>by simp at h
 |z :: r,s,hn,y,hy,e=>by
  simp only[aj,ch]at hn;unfold rh;rcases ag.1 hy with rfl|hy
  ·rw[if_pos e]
  ·have:¬z.1=s:=fun e2=>hn.1 (by rw[show yt z=yt y from e2.trans e.symm];exact bw hy)
   rw[if_neg this];exact Es hn.2 y hy e
def Hp:∀{L:List RF} {s:aD},(∀y∈L,¬y.1=s)->rh L s=([],0,5)
 |[],_,_=>rfl
 |z :: r,s,h=>by
  unfold rh;rw[if_neg (h z (by simp))];exact Hp fun y hy=>h y (by simp[hy])
def lY:∀{es:List FE} {s:aD},cT cI es s=true↔∃y∈es,y.1=s
 |[],_=>by simp[cT]
 |z :: r,s=>by
  unfold cT;by_cases c:z.1=s
  ·simp[c]
  ·rw[if_neg c,lY];simp[c]
def u6:∀{es:List FE} {s:aD},(es.map pz).Nodup->∀y∈es,y.1=s->iV cI es s=y.2.1
 |[],_,_,_,h,_=>by simp at h
 |z :: r,s,hn,y,hy,e=>by
  simp only[aj,ch]at hn;unfold iV;rcases ag.1 hy with rfl|hy
  ·rw[if_pos e]
  ·have:¬z.1=s:=fun e2=>hn.1 (by rw[show pz z=pz y from e2.trans e.symm];exact bw hy)
   rw[if_neg this];exact u6 hn.2 y hy e
def fZ.read{x:dA}{r:RS}(h:fZ x r)(s:aD):aL x s=rh r.1 s:=by
 by_cases c:cT cI x.2.1.1 s=true
 ·obtain⟨y,hy,e⟩:=lY.1 c
  rw[pA c,u6 h.names y hy e];exact(Es (xi h.Ho) (sK y) (h.perm.mem_iff.2 (bw hy)) e).symm
 ·rw[lL (by simpa using c)]
  refine(Hp fun y hy e=>c ?_).symm;obtain⟨z,hz,rfl⟩:=bf.1 (h.perm.mem_iff.1 hy);exact lY.2 ⟨z,hz,e⟩
def lM{s:aD}{y:RF}:ko s y=true↔¬y.1=s:=by simp[ko]
def Hq{s:aD}{e:RF}:∀{L:List RF} {y:RF},y∈tl s e L->y=e\/y∈L
 |[],y,h=>by simp[tl]at h;exact .inl h
 |z :: r,y,h=>by
  unfold tl at h;split at h
  ·rcases ag.1 h with h|h
   ·exact .inl h
   ·exact .inr (e8.1 h).1
  ·rcases ag.1 h with rfl|h
   ·exact .inr (by simp)
   ·rcases Hq h with h|h
    ·exact .inl h
    ·exact .inr (by simp[h])
def not_le{s a:aD}(h:¬(bu s a || s == a)=true):pM a s:=by
 simp at h;exact xa (a:=a) (b:=s) (by unfold B3 pM;rw[h.1];simp) (fun e=>h.2 e.symm)
def zC{s:aD}{e:RF}(he:e.1=s):∀{L:List RF},tY L->tY (tl s e L)
 |[],_=>by simp[tl,tY]
 |z :: r,h=>by
  have h':=c8.1 h;unfold tl;split
  ·rename_i c
   refine c8.2 ⟨fun y hy =>?_,h.filter _⟩;have hy':=e8.1 hy;have hn:=lM.1 hy'.2;have hz:B3 s z.1:=by
    simp at c;rcases c with c|rfl
    ·exact Eo c
    ·exact Hi _
   have hzy:B3 z.1 y.1:=by
    rcases ag.1 hy'.1 with e2|hy2
    ·rw[e2];exact Hi _
    ·exact Eo (h'.1 y hy2)
   rw[he];exact xa (Ph hz hzy) (fun e2=>hn e2.symm)
  ·rename_i c
   have hlt:=not_le c;refine c8.2 ⟨fun y hy =>?_,zC he h'.2⟩;rcases Hq hy with rfl|hy
   ·rw[he];exact hlt
   ·exact h'.1 y hy
def filter_all{s:aD}:∀{L:List RF},(∀y∈L,¬y.1=s)->L.filter (ko s)=L:=fun h=>List.filter_eq_self.2 fun y hy=>lM.2 (h y hy)
def Et{s:aD}{e:RF}:∀{L:List RF},tY L->(tl s e L).Perm (e :: L.filter (ko s))
 |[],_ =>.refl _
 |z :: r,h=>by
  have h':=c8.1 h;unfold tl;split
  ·exact .refl _
  ·rename_i c
   have hlt:=not_le c;have hz:ko s z=true:=lM.2 fun e=>by rw[e]at hlt;exact py _ hlt
   rw[ck,if_pos hz];exact((Et h'.2).cons z).trans (e9 e z _)
def xj{s:aD}{v:aD×Int×Unit}{c:Int}:∀{es:List FE},(es.map pz).Nodup->((eS cI es s v c).map sK).Perm ((s,v.1,v.2.1,()) :: (es.map sK).filter (ko s))
 |[],_ =>.refl _
 |z :: r,hn=>by
  simp only[aj,ch]at hn;unfold eS;by_cases e:z.1=s
  ·rw[if_pos e]
   have h1:ko s (sK z)=false:=by
    cases h:ko s (sK z)with
    |false=>rfl
    |true=>exact absurd e (lM.1 h)
   rw[aj,aj,ck,if_neg (by rw[h1];simp),filter_all]
   ·exact .refl _
   ·intro y hy e2
    obtain⟨z2,hz2,rfl⟩:=bf.1 hy;exact hn.1 (by rw[show pz z=pz z2 from e.trans (show s=z2.1 from e2.symm)];exact bw hz2)
  ·rw[if_neg e]
   have h1:ko s (sK z)=true:=lM.2 e;rw[aj,aj,ck,if_pos h1];exact((xj hn.2).cons (sK z)).trans (e9 _ _ _)
def sL{s:aD}{v:aD×Int×Unit}{c:Int}:∀{es:List FE},(eS cI es s v c).map qp=if cT cI es s=true then es.map qp else es.map qp++[c]
 |[]=>rfl
 |z :: r=>by
  unfold eS cT;by_cases e:z.1=s
  ·rw[if_pos e,if_pos e];rfl
  ·rw[if_neg e,if_neg e,aj,sL]
   split <;> rfl
def Hr{s:aD}:∀{es:List FE},(es.map pz).Nodup->(fU cI es s).map sK=(es.map sK).filter (ko s)
 |[],_=>rfl
 |z :: r,hn=>by
  simp only[aj,ch]at hn;unfold fU;by_cases e:z.1=s
  ·have h1:¬ko s (sK z)=true:=fun h=>lM.1 h e
   rw[if_pos e,aj,ck,if_neg h1,filter_all];intro y hy e2;obtain⟨z2,hz2,rfl⟩:=bf.1 hy;exact hn.1 (by rw[show pz z=pz z2 from e.trans (show s=z2.1 from e2.symm)];exact bw hz2)
  ·have h1:ko s (sK z)=true:=lM.2 e
   rw[if_neg e,aj,aj,ck,if_pos h1,Hr hn.2]
def p3{s:aD}:∀{es:List FE},(fU cI es s).Sublist es
 |[] =>.refl _
 |z :: r=>by
  unfold fU;split
  ·exact List.sublist_cons_self _ _
  ·exact p3.cons_cons _
def fZ.has{x:dA}{r:RS}(h:fZ x r)(s:aD):0<(rh r.1 s).2.2↔cT cI x.2.1.1 s=false:=by
 rw[<-h.read s];cases c:cT cI x.2.1.1 s with
 |true=>rw[pA c];simp
 |false=>rw[lL c];simp
def fZ.write{x:dA}{r:RS}(h:fZ x r)(s t:aD):fZ (cJ x s t).1 (tX r s t).1/\(cJ x s t).2=(tX r s t).2:=by
 have hlen:r.1.length=x.2.1.1.length:=by rw[h.perm.length_eq,ec]
 have hc:((cT cI x.2.1.1 s=false/\x.2.1.1.length=6)\/x.1.1=1000000)↔((0<(rh r.1 s).2.2/\r.1.length=6)\/r.2.1=1000000):=by rw[h.has,hlen,h.now]
 by_cases h1:aN s=0
 ·by_cases h2:1200<t.length
  ·rw[xg h1 h2]
   unfold tX;rw[if_neg (by simp[h1]),if_pos h2];exact⟨h,rfl⟩
  ·by_cases h3:(cT cI x.2.1.1 s=false/\x.2.1.1.length=6)\/x.1.1=1000000
   ·rw[xh h1 h2 h3]
    unfold tX;rw[if_neg (by simp[h1]),if_neg h2,if_pos (hc.1 h3)];exact⟨h,rfl⟩
   ·rw[B4 h1 h2 h3]
    unfold tX;rw[if_neg (by simp[h1]),if_neg h2,if_neg (fun h'=>h3 (hc.2 h'))];refine⟨⟨by rw[h.now],by have:=h.lo;simp only;omega,by have:=h.hi;simp only;omega,?_,?_,?_,zC (s:=s) (e:=(s,t,r.2.1+1,())) rfl h.Ho,?_⟩,rfl⟩
    ·have hp:=(xj (s:=s) (v:=(t,x.1.1+1,())) (c:=x.2.1.2.1) h.names).length_eq
     have hb:=congrArg bj (sL (s:=s) (v:=(t,x.1.1+1,())) (c:=x.2.1.2.1) (es:=x.2.1.1));simp only[ec]at hb;show(eS cI x.2.1.1 s (t,x.1.1+1,()) x.2.1.2.1).length<=6;rw[hb];have:=h.len;cases c:cT cI x.2.1.1 s with
     |true=>simpa using this
     |false=>
      have:¬x.2.1.1.length=6:=fun e=>h3 (.inl ⟨c,e⟩)
      simp;omega
    ·show((eS cI x.2.1.1 s (t,x.1.1+1,()) x.2.1.2.1).map qp).Nodup
     rw[sL];split
     ·exact h.born
     ·rw[fb]
      refine⟨h.born,by simp,fun a ha b hb e =>?_⟩;simp at hb;obtain⟨y,hy,rfl⟩:=bf.1 ha;have:=h.old y hy;omega
    ·intro y hy
     have hy':qp y∈(eS cI x.2.1.1 s (t,x.1.1+1,()) x.2.1.2.1).map qp:=bw hy;rw[sL]at hy';show qp y<mQ cI x.2.1.1 s x.2.1.2.1;unfold mQ;split at hy'
     ·rename_i c
      rw[if_pos c];obtain⟨z,hz,e⟩:=bf.1 hy';rw[<-e];exact h.old z hz
     ·rename_i c
      rw[if_neg c];rcases au.1 hy' with hy'|hy'
      ·obtain⟨z,hz,e⟩:=bf.1 hy'
       have:=h.old z hz;omega
      ·simp at hy';omega
    ·refine(Et h.Ho).trans ?_
     rw[h.now];exact((h.perm.filter _).cons _).trans (xj (v:=(t,x.1.1+1,())) (c:=x.2.1.2.1) h.names).symm
 ·rw[xf h1]
  unfold tX;rw[if_pos h1];exact⟨h,rfl⟩
def fZ.remove{x:dA}{r:RS}(h:fZ x r)(s:aD):fZ (fE x s).1 (yu r s).1/\(fE x s).2=(yu r s).2:=by
 have hp:(r.1.filter (ko s)).Perm ((fU cI x.2.1.1 s).map sK):=by rw[Hr h.names];exact h.perm.filter _
 cases c:cT cI x.2.1.1 s with
 |false=>
  have hall:r.1.filter (ko s)=r.1:=filter_all fun y hy e=>by
   obtain⟨z,hz,rfl⟩:=bf.1 (h.perm.mem_iff.1 hy);have:=lY.2 ⟨z,hz,e⟩;rw[c]at this;cases this
  rw[mv c];unfold yu;rw[if_pos (by rw[hall])];exact⟨h,rfl⟩
 |true=>
  obtain⟨y,hy,e⟩:=lY.1 c;have hlt:(r.1.filter (ko s)).length<r.1.length:=List.length_filter_lt_length_iff_exists.2 ⟨sK y,h.perm.mem_iff.2 (bw hy),by rw[lM];exact fun h=>h e⟩;rw[lC c];unfold yu;rw[if_neg (by omega)];refine⟨⟨h.now,h.lo,h.hi,b5 p3.length_le h.len,(p3.map qp).nodup h.born,fun y hy=>h.old y (p3.subset hy),List.Pairwise.filter _ h.Ho,hp⟩,rfl⟩
def rZ:aD:=[119,114,105,116,101]
def fZ.pre{x:dA}{r:RS}(h:fZ x r):x.2.1.1.length<=6/\0<=x.1.1/\x.1.1<=1000000:=⟨h.len,h.lo,h.hi⟩
def tZ:aD:=[114,101,109,111,118,101]
def mH(x:dA)(a:D dB):dA:=if a.1=rZ then(cJ x a.2.1 a.2.2.1).1 else if a.1=tZ then(fE x a.2.1).1 else x
def js(x:dA)(l:List (D dB)):dA:=l.foldl mH x
def u7{x:dA}{l:List (D dB)}{i:Nat}(h:i<l.length):js x (l.take (i+1))=mH (js x (l.take i)) (nth dB l i):=by rw[lK (t:=dB) h];simp[js]
def JV{x:dA}{a:D dB}(h:a.1=rZ):mH x a=(cJ x a.2.1 a.2.2.1).1:=if_pos h
def Hs{x:dA}{a:D dB}(h:¬a.1=rZ)(h2:a.1=tZ):mH x a=(fE x a.2.1).1:=by unfold mH;rw[if_neg h,if_pos h2]
def MH{x:dA}{a:D dB}(h:¬a.1=rZ)(h2:¬a.1=tZ):mH x a=x:=by unfold mH;rw[if_neg h,if_neg h2]
structure dD (x:dA):Prop where
 gK:∃r,fZ x r
 MI:∀y∈x.2.1.1,y.2.1.2.1<=x.1.1
def dD.new:dD qq:=⟨⟨_,fZ.new⟩,fun y hy=>by simp[qq]at hy⟩
def Ht{s:aD}{v:aD×Int×Unit}{c:Int}:∀{es:List FE} {y:FE},y∈eS cI es s v c->y.2.1=v\/y∈es
 |[],y,h=>by simp[eS]at h;subst h;exact .inl rfl
 |z :: r,y,h=>by
  unfold eS at h;split at h
  ·rcases ag.1 h with rfl|h
   ·exact .inl rfl
   ·exact .inr (by simp[h])
  ·rcases ag.1 h with rfl|h
   ·exact .inr (by simp)
   ·rcases Ht h with h|h
    ·exact .inl h
    ·exact .inr (by simp[h])
def mi(x:dA)(s t:aD):((cJ x s t).1=x/\¬(cJ x s t).2=0)\/
  ((cJ x s t).1=((x.1.1+1,()),(eS cI x.2.1.1 s (t,x.1.1+1,()) x.2.1.2.1,mQ cI x.2.1.1 s x.2.1.2.1,()),())/\(cJ x s t).2=0):=by
 unfold cJ;split
 ·rename_i h;exact .inl ⟨rfl,h⟩
 ·split
  ·exact .inl ⟨rfl,by simp⟩
  ·split
   ·exact .inl ⟨rfl,by simp⟩
   ·exact .inr ⟨rfl,rfl⟩
def dD.write{x:dA}(h:dD x)(s t:aD):dD (cJ x s t).1/\x.1.1<=(cJ x s t).1.1.1:=by
 obtain⟨r,hr⟩:=h.gK;have hg:=(hr.write s t).1;rcases mi x s t with⟨e,_⟩|⟨e,_⟩
 ·rw[e];exact⟨h,az _⟩
 ·rw[e]at hg ⊢
  refine⟨⟨⟨_,hg⟩,fun y hy =>?_⟩,by simp only;omega⟩;rcases Ht hy with hy|hy
  ·rw[hy];exact az _
  ·have:=h.MI y hy;simp only;omega
def dD.remove{x:dA}(h:dD x)(s:aD):dD (fE x s).1/\x.1.1<=(fE x s).1.1.1:=by
 obtain⟨r,hr⟩:=h.gK;have hg:=(hr.remove s).1;cases c:cT cI x.2.1.1 s with
 |false=>rw[mv c];exact⟨h,az _⟩
 |true=>
  rw[lC c]at hg ⊢;exact⟨⟨⟨_,hg⟩,fun y hy=>h.MI y (p3.subset hy)⟩,az _⟩
def dD.mH{x:dA}(h:dD x)(a:D dB):dD (mH x a)/\x.1.1<=(Mrl.mH x a).1.1:=by
 unfold Mrl.mH;split
 ·exact h.write _ _
 ·split
  ·exact h.remove _
  ·exact⟨h,az _⟩
def dD.done:∀(l:List (D dB)) {x:dA},dD x->dD (js x l)
 |[],_,h=>h
 |a :: l,_,h=>dD.done l (h.mH a).1
def MJ{x:dA}(h:dD x){s:aD}(hn:(aI (aL x s).2.2).isNil=true):(aL x s).2.1<=x.1.1:=by
 have hc:=aQ.1 hn;cases c:cT cI x.2.1.1 s with
 |false=>rw[lL c]at hc;simp at hc
 |true=>
  obtain⟨r,hr⟩:=h.gK;obtain⟨y,hy,e⟩:=lY.1 c;rw[pA c,u6 hr.names y hy e];exact h.MI y hy
def r5{s k:aD}{v:aD×Int×Unit}{c:Int}:∀{es:List FE},cT cI (eS cI es s v c) k=(decide (k=s) || cT cI es k)/\iV cI (eS cI es s v c) k=if k=s then v else iV cI es k
 |[]=>by
  by_cases h:s=k
  ·subst h;simp[eS,cT,iV]
  ·have h':¬k=s:=fun e=>h e.symm
   simp[eS,cT,iV,h,h']
 |z :: r=>by
  obtain⟨i1,i2⟩:=r5 (s:=s) (k:=k) (v:=v) (c:=c) (es:=r);unfold eS;by_cases e:z.1=s
  ·rw[if_pos e]
   by_cases h:s=k
   ·subst h;simp[cT,iV]
   ·have h':¬k=s:=fun e=>h e.symm
    have h2:¬z.1=k:=fun e2=>h (e.symm.trans e2)
    simp[cT,iV,h,h',h2]
  ·rw[if_neg e]
   by_cases h:z.1=k
   ·have h':¬k=s:=fun e2=>e (h.trans e2)
    simp[cT,iV,h,h']
   ·simp only[cT,iV,if_neg h];exact⟨i1,i2⟩
def MK{x:dA}{s k t:aD}(h:¬k=s):aL (cJ x s t).1 k=aL x k:=by
 rcases mi x s t with⟨e,_⟩|⟨e,_⟩
 ·rw[e]
 ·rw[e]
  unfold aL;simp only[(r5 (s:=s) (k:=k) (v:=(t,x.1.1+1,())) (c:=x.2.1.2.1) (es:=x.2.1.1)).1,(r5 (s:=s) (k:=k) (v:=(t,x.1.1+1,())) (c:=x.2.1.2.1) (es:=x.2.1.1)).2,h,decide_false,Bool.false_or,if_false]
def Pp{x:dA}{s t:aD}(h:(aI (cJ x s t).2).isNil=true):aL (cJ x s t).1 s=(t,x.1.1+1,0):=by
 rcases mi x s t with⟨_,e⟩|⟨e,_⟩
 ·exact absurd (aQ.1 h) e
 ·rw[e]
  unfold aL;simp only[(r5 (s:=s) (k:=s) (v:=(t,x.1.1+1,())) (c:=x.2.1.2.1) (es:=x.2.1.1)).1,(r5 (s:=s) (k:=s) (v:=(t,x.1.1+1,())) (c:=x.2.1.2.1) (es:=x.2.1.1)).2];simp
def Pq{x:dA}{s t:aD}(h:(aI (cJ x s t).2).isNil=false):(cJ x s t).1=x:=by
 rcases mi x s t with⟨e,_⟩|⟨_,e⟩
 ·exact e
 ·rw[e]at h;cases h
def dD.pre{x:dA}(h:dD x):x.2.1.1.length<=6/\0<=x.1.1/\x.1.1<=1000000:=let⟨_,hr⟩:=h.gK;hr.pre
def _root_.Go.Vg.Hu:List UInt8->UInt8
 |c :: _=>c
 |[]=>0
def nJ(c:UInt8):List aD->aD
 |[]=>[]
 |[x]=>x
 |x :: y :: r=>x++c :: nJ c (y :: r)
def parts(c:UInt8):aD->List aD
 |[]=>[[]]
 |b :: r=>if b=c then[] :: parts c r else match parts c r with
  |h :: t=>(b :: h) :: t
  |[]=>[[b]]
def AH(c:UInt8):∀s:aD,parts c s≠[]
 |[]=>by simp[parts]
 |b :: r=>by
  unfold parts;split
  ·simp
  ·split <;> simp
def mj{c b:UInt8}{r:aD}(h:b≠c):∃x t,parts c r=x :: t/\parts c (b :: r)=(b :: x) :: t:=by
 cases hp:parts c r with
 |nil=>exact absurd hp (AH c r)
 |cons x t=>
  refine⟨x,t,rfl,?_⟩
  conv=>lhs;unfold parts
  rw[if_neg h,hp]
def oD{c:UInt8}{r:aD}:parts c (c :: r)=[] :: parts c r:=by
 conv=>lhs;unfold parts
 rw[if_pos rfl]
def lN{c:UInt8}:∀{x:aD},c∉x->parts c x=[x]
 |[],_=>rfl
 |b :: r,h=>by
  obtain⟨x,t,h1,h2⟩:=mj (c:=c) (b:=b) (r:=r) (fun e=>h (by simp[e]));rw[lN (x:=r) (fun e=>h (by simp[e]))]at h1;cases h1;exact h2
def hZ{c:UInt8}:∀{x:aD} {s:aD},c∉x->parts c (x++c :: s)=x :: parts c s
 |[],s,_=>oD
 |b :: r,s,h=>by
  obtain⟨x,t,h1,h2⟩:=mj (c:=c) (b:=b) (r:=r++c :: s) (fun e=>h (by simp[e]));rw[hZ (x:=r) (fun e=>h (by simp[e]))]at h1;cases h1;exact h2
def tm{c:UInt8}:∀{L:List aD},L≠[]->(∀y∈L,c∉y)->parts c (nJ c L)=L
 |[],h,_=>absurd rfl h
 |[x],_,h=>lN (h x (by simp))
 |x :: y :: r,_,h=>by
  show parts c (x++c :: nJ c (y :: r))=_;rw[hZ (h x (by simp)),tm (by simp) fun z hz=>h z (cd _ hz)]
def sM(c:UInt8):∀(s:aD),(parts c s).length<=s.length+1
 |[]=>by simp[parts]
 |b :: r=>by
  by_cases h:b=c
  ·subst h;rw[oD];have:=sM b r;simp;omega
  ·obtain⟨x,t,h1,h2⟩:=mj (c:=c) (b:=b) (r:=r) h
   have:=sM c r;rw[h1]at this;rw[h2];simp at this ⊢;omega
def oN(c:UInt8):∀(s:aD),∀y∈parts c s,y.length<=s.length
 |[],y,h=>by simp[parts]at h;simp[h]
 |b :: r,y,h=>by
  by_cases hb:b=c
  ·subst hb;rw[oD]at h
   rcases ag.1 h with rfl|h
   ·simp
   ·have:=oN b r y h;simp;omega
  ·obtain⟨x,t,h1,h2⟩:=mj (c:=c) (b:=b) (r:=r) hb
   rw[h2]at h;rcases ag.1 h with rfl|h
   ·have:=oN c r x (by rw[h1];simp);simp;omega
   ·have:=oN c r y (by rw[h1];simp[h]);simp;omega
def xk{b c:UInt8}{l:aD}(h:b≠c):bm (b :: l) [c]=if bm l [c] == -1 then -1 else bm l [c]+1:=by
 rw[bm];simp[cm,Ne.symm h]
def xl{c:UInt8}{l:aD}:bm (c :: l) [c]=0:=by
 rw[bm];simp[cm]
def r6(c:UInt8):∀s:aD,cn [c] 0 (s.count c) s=parts c s
 |[]=>rfl
 |b :: l=>by
  by_cases h:b=c
  ·subst h
   rw[oD,List.count_cons_self,cn,xl,if_neg (by decide),<-r6 b l];simp
  ·obtain⟨x,t,h1,h2⟩:=mj (c:=c) (b:=b) (r:=l) h
   rw[h2,List.count_cons_of_ne h];rw[<-r6 c l]at h1;cases hk:l.count c with
   |zero=>
    rw[hk]at h1;simp only[cn]at h1 ⊢;cases h1;rfl
   |succ k=>
    rw[hk]at h1;have hi:bm l [c]≠-1:=by
     intro e;have:=Lib.count_miss (s:=l) (sub:=[c]) e;rw[Lib.count_one]at this;omega
    have hge:=Lib.index_ge l [c];rw[cn,if_neg (by simpa using hi)]at h1;obtain⟨i,e⟩:∃i:Nat,bm l [c]=i:=⟨(bm l [c]).toNat,by omega⟩
    have e2:bm (b :: l) [c]=((i+1:Nat):Int):=by rw[xk h,if_neg (by simpa using hi),e];rfl
    rw[cn,e2,if_neg (by simp;omega)];rw[e]at h1;simp only[dv,Nat.add_zero,da,fc,List.drop_succ_cons,List.cons.injEq]at h1 ⊢;exact⟨⟨aa,h1.1⟩,h1.2⟩
def qW(c:UInt8)(L:List aD):aD:=L.flatMap (· ++ [c])
def Eu(c:UInt8)(x:aD)(L:List aD):qW c (x :: L)=x++c :: qW c L:=by simp[qW]
def Ev{c:UInt8}:∀{L:List aD},L≠[]->qW c L=nJ c L++[c]
 |[],h=>absurd rfl h
 |[x],_=>by simp[qW,nJ]
 |x :: y :: r,_=>by
  rw[Eu,Ev (L:=y :: r) (by simp)];simp[nJ]
def ua(x:aD)(c:UInt8):ae (x++[c]) [c]=x:=by
 have h:Lib.hasSuffix (x++[c]) [c]=true:=by unfold Lib.hasSuffix;simp[List.isSuffixOf_iff_suffix]
 unfold ae;rw[if_pos h];simp
def ML{c:UInt8}{L:List aD}(h:L≠[])(hf:∀y∈L,c∉y):parts c (ae (qW c L) [c])=L:=by
 rw[Ev h,ua,tm h hf]
def xm{k:Nat}(h:k<10):(ed (48+k)).toNat=48+k:=by
 rw[er];omega
def pB:∀(u:Nat),∀c∈ay u,48<=c.toNat/\c.toNat<=57:=by
 intro u;induction u using fe with
 |_ u ih=>
  intro c hc;by_cases h:u<10
  ·rw[ay,dif_pos h]at hc
   simp only[db]at hc;rw[hc,xm h];omega
  ·rw[ay,dif_neg h]at hc
   rcases au.1 hc with hc|hc
   ·exact ih _ (by omega) c hc
   ·simp only[db]at hc
    rw[hc,xm (Nat.mod_lt _ (by decide))];omega
def xn(u:Nat):ay u≠[]:=by
 rw[ay];split <;> simp
def oE:∀(k u:Nat),u<10^(k+1)->(ay u).length<=k+1
 |0,u,h=>by rw[ay,dif_pos (by simpa using h)];simp
 |k+1,u,h=>by
  rw[ay];split
  ·simp
  ·have:=oE k (u / 10) (by rw[Nat.pow_succ]at h;omega)
   simp;exact this
def Ew:∀(l:aD) (c:UInt8) (a v:Nat),bo a l=.ok v->bo a (l++[c])=bo v [c]
 |[],c,a,v,h=>by simp[bo]at h;rw[h];rfl
 |b :: l,c,a,v,h=>by
  rw[ee,bo];rw[bo]at h;split at h
  ·rename_i hb
   rw[if_pos hb];split at h
   ·cases h
   ·rename_i h1
    rw[if_neg h1];split at h
    ·cases h
    ·rename_i h2
     rw[if_neg h2];exact Ew l c _ v h
  ·cases h
def Hv{v d:Nat}(hd:d<10)(h:10*v+d<18446744073709551616):bo v [ed (48+d)]=.ok (10*v+d):=by
 unfold bo;rw[xm hd,if_pos (by omega),if_neg (by omega),if_neg (by omega)];unfold bo;congr 1;omega
def SH:∀u:Nat,u<18446744073709551616->bo 0 (ay u)=.ok u:=by
 intro u;induction u using fe with
 |_ u ih=>
  intro hu;by_cases h:u<10
  ·rw[ay,dif_pos h]
   have:=Hv (v:=0) (d:=u) h (by omega);simpa using this
  ·rw[ay,dif_neg h,Ew _ _ _ _ (ih _ (by omega) (by omega)),Hv (Nat.mod_lt _ (by decide)) (by omega)]
   congr 1;omega
def K8{u:Nat}(hu:u<18446744073709551616):Lib.parseMag (ay u)=.ok u:=by
 unfold Lib.parseMag;rw[if_neg (xn u),SH u hu]
def Pr{n:Int}(h0 : -9223372036854775808<=n)(h1:n<=9223372036854775807):b6 (ab n)=.ok n:=by
 by_cases hn:n<0
 ·have hm:=K8 (u:=n.natAbs) (by omega)
  simp only[ab,if_pos hn,b6];rw[if_pos (Or.inr (by decide)),hm];simp only;rw[if_neg (by simp),if_neg (by simp;omega)];simp;omega
 ·have hm:=K8 (u:=n.toNat) (by omega)
  simp only[ab,if_neg hn,b6];cases hd:ay n.toNat with
  |nil=>exact absurd hd (xn _)
  |cons c r=>
   have hc:=pB n.toNat c (by rw[hd];simp);rw[hd]at hm;simp only;rw[if_neg (by omega),hm];simp only;rw[if_neg (by omega),if_neg (by omega),if_neg (by omega)];congr 1;omega
def dX(s:List UInt8):Int×aM:=match b6 s with
 |.ok n=>(n,.nil)
 |Lib.NumEnd.syntax=>(0,.other)
 |.range=>(Lib.atoiSat s,.other)
def cP(s:aD):Option Int:=match b6 s with
 |.ok n=>if ab n=s then some n else none
 |_=>none
def Ps{n:Int}(h0 : -9223372036854775808<=n)(h1:n<=9223372036854775807):cP (ab n)=some n:=by
 unfold cP;rw[Pr h0 h1];simp
def qI{s:aD}:(cP s).isNone=(!(dX s).2.isNil || !decide (ab (dX s).1=s)):=by
 unfold cP dX;cases b6 s with
 |ok v=>simp only[aM.isNil];by_cases h:ab v=s <;> simp[h]
 |range=>rfl
 |_=>rfl
def Ey{n:Int}{c:UInt8}(h:c.toNat<=44):c∉ab n:=by
 intro hc;have h45:(45:UInt8).toNat=45:=rfl;unfold ab at hc;split at hc
 ·rcases ag.1 hc with rfl|hc
  ·omega
  ·have:=pB _ c hc;omega
 ·have:=pB _ c hc;omega
def mD(n:Int):Nat:=2*n.natAbs+(if n<0 then 1 else 0)
def Xq{n:Int}(h:n<0):mD (-n)<mD n:=by unfold mD;rw[if_neg (by omega),if_pos h];omega
def Pu{n:Int}(h:n<0):ab n=[45]++ab (-n):=by
 unfold ab;rw[if_pos h,if_neg (by omega)];congr 2;omega
def AI{n:Int}(h:0<=n)(h':n<10):ab n=[ed (48+n).toNat]:=by
 unfold ab;rw[if_neg (by omega),ay,dif_pos (by omega)];congr 2;omega
def mZ{f:Int}(h0:0<=f)(h:(aI f).isNil=false):f > 0:=by
 have:¬f=0:=fun e=>by rw[aQ.2 e]at h;cases h
 omega
def dE{f:Int}(h:(aI f).isNil=true):f<=0:=by
 have:=aQ.1 h;omega
def Ez{t:Ty}{l:List (D t)}{i j:Nat}(h:j<i):nth t (ai 0 (ah i l)) j=nth t l j:=by
 rw[ef,AF h]
def EA{α:Type}{l:List α}{i:Nat}(h:i<=l.length):(ai 0 (ah i l)).length=i:=by
 rw[ef,bh];omega
def iH(b:Bool):List UInt8:=if b=true then[119,101,97,107,32]else[]
def yv(s:aD):aD:=[110,101,101,100,32]++s++[10]
def u9(n:Int):aD:=[119,111,114,100,32]++ab n++[10]
def Di(y:D aR):aD:=iH y.2.2.1++[115,121,109,98,111,108,32]++y.1++[32]++ab y.2.1++[10]
def tn(t:D bB):aD:=
 if t.2.1=1 then[98,97,115,101,32]++ab t.1++[32]++ab t.2.2.1++[10]
 else if t.2.1=2 then iH t.2.2.2.2.1++[119,104,111,108,101,32]++ab t.1++[32]++ab t.2.2.1++[32]++t.2.2.2.1++[10]
 else iH t.2.2.2.2.1++[110,101,97,114,32]++ab t.1++[32]++ab t.2.2.1++[32]++t.2.2.2.1++[10]
def pC(o:D aA)(i:Nat):aD:=(o.1.take i).flatMap yv
def nU(o:D aA)(i:Nat):aD:=pC o o.1.length++(o.2.1.take i).flatMap u9
def nV(o:D aA)(i:Nat):aD:=nU o o.2.1.length++(o.2.2.1.take i).flatMap Di
def jA(o:D aA)(i:Nat):aD:=nV o o.2.2.1.length++(o.2.2.2.1.take i).flatMap tn
def iI(o:D aA):aD:=jA o o.2.2.2.1.length
def kq(o:D aA):aD×aM:=if cX o≠0 then([],aI (cX o))else if(iI o).length > 1200 then([],.no 2)else(iI o,.nil)
def Pv{o:D aA}{i:Nat}(h:i<o.1.length):pC o (i+1)=pC o i++yv (nth .str o.1 i):=by
 unfold pC;rw[iG (t:=.str) h];simp
def Pw{o:D aA}{i:Nat}(h:i<o.2.1.length):nU o (i+1)=nU o i++u9 (nth (.int .i64) o.2.1 i):=by
 unfold nU;rw[iG (t:=.int .i64) h];simp
def Px{o:D aA}{i:Nat}(h:i<o.2.2.1.length):nV o (i+1)=nV o i++Di (nth aR o.2.2.1 i):=by
 unfold nV;rw[iG (t:=aR) h];simp
def xp{o:D aA}{i:Nat}(h:i<o.2.2.2.1.length):jA o (i+1)=jA o i++tn (nth bB o.2.2.2.1 i):=by
 unfold jA;rw[iG (t:=bB) h];simp
def Py(o:D aA):nU o 0=pC o o.1.length:=by unfold nU;simp
def Pz(o:D aA):nV o 0=nU o o.2.1.length:=by unfold nV;simp
def PA(o:D aA):jA o 0=nV o o.2.2.1.length:=by unfold jA;simp
def Nm(s:aD):Prop:=s≠[]/\s.length<=8/\∀c∈s,c≠10/\c≠32
def ij(a b x:Int):Prop:=a<=x/\x<=b
structure B5 (t:D bB):Prop where
 a:ij 0 39 t.1
 w:ij (-2147483648) 2147483647 t.2.2.1
 k:t.2.1=1\/t.2.1=2\/t.2.1=3
 base:t.2.1=1->t.2.2.2.1=[]/\t.2.2.2.2.1=false
 nm:t.2.1≠1->Nm t.2.2.2.1
structure kZ (o:D aA):Prop where
 n4:o.1.length<=4
 w1:1<=o.2.1.length
 Up:o.2.1.length<=40
 s8:o.2.2.1.length<=8
 t6:o.2.2.2.1.length<=6
 Gd:∀s∈o.1,Nm s
 words:∀n∈o.2.1,ij (-2147483648) 2147483647 n
 syms:∀y∈o.2.2.1,Nm y.1/\ij 0 39 y.2.1
 MM:∀t∈o.2.2.2.1,B5 t
def zD:∀(l p:List aD),jz p l=0->∀s∈l,aN s=0
 |[],_,_,s,h=>absurd h (by simp)
 |x :: r,p,h,s,hs=>by
  have hx:=eU x;unfold jz at h;split at h
  ·omega
  ·split at h
   ·cases h
   ·rcases ag.1 hs with rfl|hs
    ·omega
    ·exact zD r _ h s hs
def zE:∀(l:List Int),kO l=0->∀n∈l,ic n=true
 |[],_,s,h=>absurd h (by simp)
 |x :: r,h,s,hs=>by
  unfold kO at h;split at h
  ·rename_i hx
   rcases ag.1 hs with rfl|hs
   ·exact hx
   ·exact zE r h s hs
  ·cases h
def B6(n:Nat):∀(l p:List (D aR)),ie n p l=0->∀y∈l,aN y.1=0/\ij 0 (n-1) y.2.1
 |[],_,_,s,h=>absurd h (by simp)
 |x :: r,p,h,s,hs=>by
  have hx:=eU x.1;unfold ie at h;split at h
  ·omega
  ·split at h
   ·cases h
   ·rename_i h2
    split at h
    ·cases h
    ·rcases ag.1 hs with rfl|hs
     ·exact⟨by omega,ao.1 fun e=>h2 (.inl e),fg (cp.1 fun e=>h2 (.inr e))⟩
     ·exact B6 n r _ h s hs
def EB{n:Nat}{p:Option Int}{t:D bB}(h:mY n p t=0) :
  ij 0 (n-1) t.1/\ic t.2.2.1=true/\ij 1 3 t.2.1/\(t.2.1=1->t.2.2.2.1=[]/\t.2.2.2.2.1=false)/\(t.2.1≠1->aN t.2.2.2.1=0):=by
 unfold mY at h;split at h
 ·cases h
 ·rename_i h1
  split at h
  ·cases h
  ·rename_i h2
   refine⟨⟨ao.1 fun e=>h1 (.inl e),fg (cp.1 fun e=>h1 (.inr (.inl e)))⟩,?_,⟨ao.1 fun e=>h2 (.inl e),ao.1 fun e=>h2 (.inr (.inl e))⟩,?_,?_⟩
   ·cases hw:ic t.2.2.1 with
    |true=>rfl
    |false=>exact absurd (.inr (.inr hw)) h1
   ·intro e
    rw[if_pos e]at h;split at h
    ·cases h
    ·rename_i h3
     refine⟨aq fun e=>h3 (.inl e),?_⟩;cases hb:t.2.2.2.2.1 with
     |false=>rfl
     |true=>exact absurd (.inr hb) h3
   ·intro e
    rw[if_neg e]at h;exact h
def vb(n:Nat):∀(l:List (D bB)) (p:Option Int),kP n p l=0->∀t∈l,∃p,mY n p t=0
 |[],_,_,s,h=>absurd h (by simp)
 |x :: r,p,h,s,hs=>by
  unfold kP at h;split at h
  ·rename_i h0;exact absurd h h0
  ·rename_i h0
   rcases ag.1 hs with rfl|hs
   ·exact⟨p,aq h0⟩
   ·exact vb n r _ h s hs
def B7{s:aD}(h:aN s=0):Nm s:=by
 unfold aN at h;split at h
 ·cases h
 ·rename_i hl
  split at h
  ·cases h
  ·rename_i hb
   refine⟨by rintro rfl;simp at hl,by omega,fun c hc =>?_⟩;obtain⟨i,hi,rfl⟩:=dw hc;have hn:iZ i (dH s i)=false:=by
    unfold tT at hb;rw[fh,cy]at hb;have:=hb i (by simpa using hi);simpa using this
   have he:dH s i=s[i]:=by unfold dH;simp[hi]
   rw[he]at hn;constructor
   ·intro e;rw[e]at hn;unfold iZ small other at hn;simp at hn
   ·intro e;rw[e]at hn;unfold iZ small other at hn;simp at hn
def three{x:Int}(h:1<=x)(h':x<=3):x=1\/x=2\/x=3:=by omega
def nc{o:D aA}(h:cX o=0):kZ o:=by
 unfold cX at h;split at h
 ·cases h
 ·rename_i hm
  split at h
  ·rename_i h1;exact absurd h h1
  ·rename_i h1
   split at h
   ·rename_i h2;exact absurd h h2
   ·rename_i h2
    split at h
    ·rename_i h3;exact absurd h h3
    ·rename_i h3
     have h1:=aq h1;have h2:=aq h2;have h3:=aq h3;unfold lW at hm;have hw:o.2.1.length<=40:=bc.1 fun e=>hm (.inr (.inr (.inl e)))
     refine⟨bc.1 fun e=>hm (.inl e),bc.1 fun e=>hm (.inr (.inl e)),hw,bc.1 fun e=>hm (.inr (.inr (.inr (.inl e)))),bc.1 fun e=>hm (.inr (.inr (.inr (.inr e)))),
      fun s hs=>B7 (zD _ _ h1 s hs),fun n hn =>?_,fun y hy =>?_,fun t ht =>?_⟩
     ·have:=zE _ h2 n hn
      unfold ic at this;simp only[af,decide_eq_true_eq]at this;exact this
     ·obtain⟨a,b,c⟩:=B6 _ _ _ h3 y hy
      exact⟨B7 a,b,b7 c (by omega)⟩
     ·obtain⟨p,hp⟩:=vb _ _ _ h t ht
      obtain⟨⟨a,b⟩,c,⟨d,e⟩,f,g⟩:=EB hp;unfold ic at c;simp only[af,decide_eq_true_eq]at c;exact⟨⟨a,b7 b (by omega)⟩,c,three d e,f,fun e=>B7 (g e)⟩
def dG{a b n:Int}(h:ij a b n)(ha : -999999999999999999<=a)(hb:b<=999999999999999999):(ab n).length<=19:=by
 obtain⟨h0,h1⟩:=h;unfold ab;split
 ·rw[cj]
  have:=oE 17 n.natAbs (by omega);omega
 ·have:=oE 17 n.toNat (by omega)
  omega
def sN(b:Bool):(iH b).length<=5:=by cases b <;> decide
def PB{s:aD}(h:Nm s):(yv s).length<=64:=by have:=h.2.1;simp[yv];omega
def PC{n:Int}(h:ij (-2147483648) 2147483647 n):(u9 n).length<=64:=by have:=dG h (by decide) (by decide);simp[u9];omega
def SI{y:D aR}(h:Nm y.1/\ij 0 39 y.2.1):(Di y).length<=64:=by
 have h1:=dG h.2 (by decide) (by decide);have h2:=sN y.2.2.1;have h3:=h.1.2.1;simp[Di];omega
def SJ{t:D bB}(h:B5 t):(tn t).length<=64:=by
 have h1:=dG h.a (by decide) (by decide);have h4:=dG h.w (by decide) (by decide);have h2:=sN t.2.2.2.2.1;unfold tn;split
 ·simp;omega
 ·rename_i hk
  have h3:=(h.nm hk).2.1;split
  ·simp;omega
  ·simp;omega
def oO{α:Type}{f:α->aD}:∀{l:List α},(∀x∈l,(f x).length<=64)->(l.flatMap f).length<=64*l.length
 |[],_=>by simp
 |x :: r,h=>by
  have h1:=h x (by simp);have h2:=oO (f:=f) (l:=r) fun y hy=>h y (cd _ hy)
  rw[bx,aw,cj];omega
def kZ.Hw{o:D aA}(h:kZ o)(i:Nat):(pC o i).length<=1000:=by
 have:=oO (f:=yv) (l:=o.1.take i) fun s hs=>PB (h.Gd s (b8 hs))
 have h2:=h.n4;unfold pC;simp only[bh]at this;omega
def kZ.AJ{o:D aA}(h:kZ o)(i:Nat):(nU o i).length<=4000:=by
 have h0:=h.Hw o.1.length;have:=oO (f:=u9) (l:=o.2.1.take i) fun s hs=>PC (h.words s (b8 hs))
 have h2:=h.Up;unfold nU;rw[aw];simp only[bh]at this;omega
def kZ.Wq{o:D aA}(h:kZ o)(i:Nat):(nV o i).length<=5000:=by
 have h0:=h.AJ o.2.1.length;have:=oO (f:=Di) (l:=o.2.2.1.take i) fun s hs=>SI (h.syms s (b8 hs))
 have h2:=h.s8;unfold nV;rw[aw];simp only[bh]at this;omega
def kZ.Xk{o:D aA}(h:kZ o)(i:Nat):(jA o i).length<=6000:=by
 have h0:=h.Wq o.2.2.1.length;have:=oO (f:=tn) (l:=o.2.2.2.1.take i) fun s hs=>SJ (h.MM s (b8 hs))
 have h2:=h.t6;unfold jA;rw[aw];simp only[bh]at this;omega
def kZ.xq{o:D aA}(h:kZ o){i:Nat}(hi:i<o.1.length):Nm (nth .str o.1 i):=h.Gd _ (dV (t:=.str) hi)
def kZ.word{o:D aA}(h:kZ o){i:Nat}(hi:i<o.2.1.length):ij (-2147483648) 2147483647 (nth (.int .i64) o.2.1 i):=h.words _ (dV (t:=.int .i64) hi)
def kZ.sym{o:D aA}(h:kZ o){i:Nat}(hi:i<o.2.2.1.length):Nm (nth aR o.2.2.1 i).1/\ij 0 39 (nth aR o.2.2.1 i).2.1:=h.syms _ (dV (t:=aR) hi)
def kZ.tie{o:D aA}(h:kZ o){i:Nat}(hi:i<o.2.2.2.1.length):B5 (nth bB o.2.2.2.1 i):=h.MM _ (dV (t:=bB) hi)
def JW(a b:aD):bI a++bI b=bI (a++b):=by simp[bI]
def zF(a:aD):(bI a).length=a.length:=by simp[bI]
def EC{o:D aA}(h:kZ o){i:Nat}(hi:i<o.1.length):(nth .str o.1 i).length<=8/\(pC o i).length<=1000:=⟨(h.xq hi).2.1,h.Hw i⟩
def ED{o:D aA}(h:kZ o){i:Nat}(hi:i<o.2.1.length):(ab (nth (.int .i64) o.2.1 i)).length<=19/\(nU o i).length<=4000:=
 ⟨dG (h.word hi) (by decide) (by decide),h.AJ i⟩
def Hx{o:D aA}(h:kZ o){i:Nat}(hi:i<o.2.2.1.length) :
  (nth aR o.2.2.1 i).1.length<=8/\(ab (nth aR o.2.2.1 i).2.1).length<=19/\(iH (nth aR o.2.2.1 i).2.2.1).length<=5/\(nV o i).length<=5000:=
 ⟨(h.sym hi).1.2.1,dG (h.sym hi).2 (by decide) (by decide),sN _,h.Wq i⟩
def Hy{o:D aA}(h:kZ o){i:Nat}(hi:i<o.2.2.2.1.length) :
  (nth bB o.2.2.2.1 i).2.2.2.1.length<=8/\(ab (nth bB o.2.2.2.1 i).1).length<=19/\(ab (nth bB o.2.2.2.1 i).2.2.1).length<=19/\(iH (nth bB o.2.2.2.1 i).2.2.2.2.1).length<=5/\(jA o i).length<=6000:=by
 have ht:=h.tie hi;refine⟨?_,dG ht.a (by decide) (by decide),dG ht.w (by decide) (by decide),sN _,h.Xk i⟩;by_cases hk:(nth bB o.2.2.2.1 i).2.1=1
 ·rw[(ht.base hk).1];decide
 ·exact(ht.nm hk).2.1
def oP{p p' q:aD}{a b:Int}(h:p'=p++q):(((bI p++bI q,a,b,()):D kx))=((bI p',a,b,()):D kx):=by rw[h,JW]
def AK{p p':aD}{a b:Int}(h:p=p'):((bI p,a,b,()):D kx)=((bI p',a,b,()):D kx):=by rw[h]
def MN{o:D aA}{i:Nat}(h:i<o.2.2.2.1.length)(hk:(nth bB o.2.2.2.1 i).2.1=1) :
  jA o (i+1)=jA o i++([98,97,115,101,32]++ab (nth bB o.2.2.2.1 i).1++[32]++ab (nth bB o.2.2.2.1 i).2.2.1++[10]):=by
 rw[xp h];unfold tn;rw[if_pos hk]
def MO{o:D aA}{i:Nat}(h:i<o.2.2.2.1.length)(hk:¬(nth bB o.2.2.2.1 i).2.1=1)(hk2:(nth bB o.2.2.2.1 i).2.1=2) :
  jA o (i+1)=jA o i++(iH (nth bB o.2.2.2.1 i).2.2.2.2.1++[119,104,111,108,101,32]++ab (nth bB o.2.2.2.1 i).1++[32]++ab (nth bB o.2.2.2.1 i).2.2.1++[32]++(nth bB o.2.2.2.1 i).2.2.2.1++[10]):=by
 rw[xp h];unfold tn;rw[if_neg hk,if_pos hk2]
def MP{o:D aA}{i:Nat}(h:i<o.2.2.2.1.length)(hk:¬(nth bB o.2.2.2.1 i).2.1=1)(hk2:¬(nth bB o.2.2.2.1 i).2.1=2) :
  jA o (i+1)=jA o i++(iH (nth bB o.2.2.2.1 i).2.2.2.2.1++[110,101,97,114,32]++ab (nth bB o.2.2.2.1 i).1++[32]++ab (nth bB o.2.2.2.1 i).2.2.1++[32]++(nth bB o.2.2.2.1 i).2.2.2.1++[10]):=by
 rw[xp h];unfold tn;rw[if_neg hk,if_neg hk2]
def EE{o:D aA}(h:cX o≠0):kq o=([],aI (cX o)):=by unfold kq;rw[if_pos h]
def B8{o:D aA}(h:cX o=0){i:Nat}(hi:i=o.2.2.2.1.length)(hl:(jA o i).length > 1200):kq o=([],.no 2):=by
 unfold kq;rw[if_neg (by rw[h];decide),if_pos (by unfold iI;rw[<-hi];exact hl)]
def ve{o:D aA}(h:cX o=0){i:Nat}(hi:i=o.2.2.2.1.length)(hl:(jA o i).length<=1200):kq o=(jA o i,.nil):=by
 unfold kq;rw[if_neg (by rw[h];decide),if_neg (by unfold iI;rw[<-hi];omega)];unfold iI;rw[<-hi]
@[reducible] def dU:aD:=[119,101,97,107,32]
@[reducible] def kr:aD:=[110,101,101,100]
@[reducible] def jV:aD:=[119,111,114,100]
@[reducible] def jj:aD:=[115,121,109,98,111,108]
@[reducible] def mI:aD:=[98,97,115,101]
@[reducible] def lD:aD:=[119,104,111,108,101]
@[reducible] def lh:aD:=[110,101,97,114]
def p4(o:D aA)(s:aD):D aA:=(o.1++[s],o.2)
def p5(o:D aA)(n:Int):D aA:=(o.1,o.2.1++[n],o.2.2)
def ub(o:D aA)(y:D aR):D aA:=(o.1,o.2.1,o.2.2.1++[y],o.2.2.2)
def pD(o:D aA)(t:D bB):D aA:=(o.1,o.2.1,o.2.2.1,o.2.2.2.1++[t],())
def AL(x y:aD)(k:Int->Int->D aA):Option (D aA):=
 match cP x,cP y with
 |some m,some n=>some (k m n)
 |_,_=>none
def nf(o:D aA)(b:Bool):List aD->Option (D aA)
 |[a,x]=>if a=kr then some (p4 o x)else if a=jV then(cP x).map (p5 o)else none
 |[a,x,y]=>if a=jj then(cP y).map fun n=>ub o (x,n,b,())else if a=mI then AL x y fun m n=>pD o (m,1,n,[],false,())else none
 |[a,x,y,z]=>if a=lD\/a=lh then AL x y fun m n=>pD o (m,if a=lh then 3 else 2,n,z,b,())else none
 |_=>none
def pE(o:D aA)(s:aD):Option (D aA):=nf o (av s dU) (parts 32 (ax s dU))
def run(f:D aA->aD->Option (D aA)):D aA->List aD->Option (D aA)
 |o,[]=>some o
 |o,s :: r=>match f o s with
  |some p=>run f p r
  |none=>none
def Hz{f:D aA->aD->Option (D aA)}:∀{l:List aD} {o:D aA} {s:aD},run f o (l++[s])=(run f o l).bind fun p=>f p s
 |[],o,s=>by simp only[ey,run,fj];cases f o s <;> rfl
 |x :: r,o,s=>by
  simp only[ee,run];cases f o x with
  |none=>rfl
  |some p=>exact Hz
def yw{f:D aA->aD->Option (D aA)}:∀{l m:List aD} {o p:D aA},run f o l=some p->run f o (l++m)=run f p m
 |[],m,o,p,h=>by simp only[run,df]at h;rw[h];rfl
 |x :: r,m,o,p,h=>by
  simp only[run]at h;simp only[ee,run];cases hx:f o x with
  |none=>rw[hx]at h;cases h
  |some q=>rw[hx]at h;exact yw h
def pF(s:aD):aD:=[110,101,101,100,32]++s
def pG(n:Int):aD:=[119,111,114,100,32]++ab n
def AM(y:D aR):aD:=iH y.2.2.1++([115,121,109,98,111,108,32]++(y.1++32 :: ab y.2.1))
def xr(t:D bB):aD:=
 if t.2.1=1 then[98,97,115,101,32]++(ab t.1++32 :: ab t.2.2.1)
 else if t.2.1=2 then iH t.2.2.2.2.1++([119,104,111,108,101,32]++(ab t.1++32 :: (ab t.2.2.1++32 :: t.2.2.2.1)))
 else iH t.2.2.2.2.1++([110,101,97,114,32]++(ab t.1++32 :: (ab t.2.2.1++32 :: t.2.2.2.1)))
def qJ(o:D aA):List aD:=o.1.map pF++(o.2.1.map pG++(o.2.2.1.map AM++o.2.2.2.1.map xr))
def r7{α:Type}{f g:α->aD}(h:∀x,f x=g x++[10]):∀l:List α,l.flatMap f=qW 10 (l.map g)
 |[]=>rfl
 |x :: r=>by rw[bx,r7 h r,aj,Eu,h];simp
def AN(c:UInt8)(l m:List aD):qW c (l++m)=qW c l++qW c m:=by simp[qW]
def JX(o:D aA):iI o=qW 10 (qJ o):=by
 unfold iI jA nV nU pC qJ;rw[cb,cb,cb,cb,AN,AN,AN,
  r7 (g:=pF) (fun s=>by simp[yv,pF]) o.1,r7 (g:=pG) (fun s=>by simp[u9,pG]) o.2.1,
  r7 (g:=AM) (fun s=>by simp[Di,AM]) o.2.2.1,
  r7 (g:=xr) (fun s=>by unfold tn xr;split <;> (try split) <;> simp) o.2.2.2.1]
 simp
structure Reads (f:D aA->aD->Option (D aA)):Prop where
 xq:∀(o:D aA) (s:aD),Nm s->f o (pF s)=some (p4 o s)
 word:∀(o:D aA) (n:Int),ij (-2147483648) 2147483647 n->f o (pG n)=some (p5 o n)
 sym:∀(o:D aA) (y:D aR),Nm y.1->ij 0 39 y.2.1->f o (AM y)=some (ub o y)
 tie:∀(o:D aA) (t:D bB),B5 t->f o (xr t)=some (pD o t)
section
variable{f:D aA->aD->Option (D aA)}(h:Reads f)
include h
def EF:∀(l:List aD) (o:D aA),(∀s∈l,Nm s)->run f o (l.map pF)=some (o.1++l,o.2)
 |[],o,_=>by simp[run]
 |s :: r,o,hl=>by
  rw[aj,run,h.xq o s (hl s (by simp))];show run f (p4 o s) (r.map pF)=_;rw[EF r _ fun x hx=>hl x (cd _ hx)];simp[p4]
def EG:∀(l:List Int) (o:D aA),(∀n∈l,ij (-2147483648) 2147483647 n)->run f o (l.map pG)=some (o.1,o.2.1++l,o.2.2)
 |[],o,_=>by simp[run]
 |s :: r,o,hl=>by
  rw[aj,run,h.word o s (hl s (by simp))];show run f (p5 o s) (r.map pG)=_;rw[EG r _ fun x hx=>hl x (cd _ hx)];simp[p5]
def HA:∀(l:List (D aR)) (o:D aA),(∀y∈l,Nm y.1/\ij 0 39 y.2.1)->run f o (l.map AM)=some (o.1,o.2.1,o.2.2.1++l,o.2.2.2)
 |[],o,_=>by simp[run]
 |s :: r,o,hl=>by
  rw[aj,run,h.sym o s (hl s (by simp)).1 (hl s (by simp)).2];show run f (ub o s) (r.map AM)=_;rw[HA r _ fun x hx=>hl x (cd _ hx)];simp[ub]
def HB:∀(l:List (D bB)) (o:D aA),(∀t∈l,B5 t)->run f o (l.map xr)=some (o.1,o.2.1,o.2.2.1,o.2.2.2.1++l,())
 |[],o,_=>by simp[run]
 |s :: r,o,hl=>by
  rw[aj,run,h.tie o s (hl s (by simp))];show run f (pD o s) (r.map xr)=_;rw[HB r _ fun x hx=>hl x (cd _ hx)];simp[pD]
def PE{o:D aA}(ok:kZ o):run f (bY aA) (qJ o)=some o:=by
 unfold qJ;rw[yw (EF h o.1 _ ok.Gd),yw (EG h o.2.1 _ ok.words),yw (HA h o.2.2.1 _ ok.syms),HB h o.2.2.2.1 _ ok.MM];rfl
end
def B9{a:UInt8}{s:aD}(h:a≠119):av (a :: s) dU=false:=by
 unfold av dU;simp[cm];intro e;exact absurd e.symm h
def U4{s:aD}(h:av s dU=false):ax s dU=s:=by unfold ax;rw[if_neg (by rw[h];decide)]
def K9(s:aD):av (dU++s) dU=true:=by unfold av dU;simp[cm]
def SK(s:aD):ax (dU++s) dU=s:=by unfold ax;rw[if_pos (K9 s)];rfl
def La{a b:UInt8}{s:aD}(h:b≠101):av (a :: b :: s) dU=false:=by
 unfold av dU;simp[cm];intro _ e;exact absurd e.symm h
def nK(o:D aA)(b:Bool)(s:aD)(h:av s dU=false):pE o (iH b++s)=nf o b (parts 32 s):=by
 unfold pE;cases b with
 |false=>show nf o (av s dU) (parts 32 (ax s dU))=_;rw[h,U4 h]
 |true=>show nf o (av (dU++s) dU) (parts 32 (ax (dU++s) dU))=_;rw[K9,SK]
def nL{s:aD}(h:Nm s):(32:UInt8)∉s/\(10:UInt8)∉s:=⟨fun hc=>(h.2.2 _ hc).2 rfl,fun hc=>(h.2.2 _ hc).1 rfl⟩
def jL(n:Int):(32:UInt8)∉ab n:=Ey (by decide)
def ng(n:Int):(10:UInt8)∉ab n:=Ey (by decide)
def MQ{s:aD}(h:Nm s):parts 32 (pF s)=[kr,s]:=by
 show parts 32 (kr++32 :: s)=_;rw[hZ (by decide),lN (nL h).1]
def MR(n:Int):parts 32 (pG n)=[jV,ab n]:=by
 show parts 32 (jV++32 :: ab n)=_;rw[hZ (by decide),lN (jL n)]
def PF{s:aD}{n:Int}(h:Nm s):parts 32 ([115,121,109,98,111,108,32]++(s++32 :: ab n))=[jj,s,ab n]:=by
 show parts 32 (jj++32 :: (s++32 :: ab n))=_;rw[hZ (by decide),hZ (nL h).1,lN (jL n)]
def MS(m n:Int):parts 32 ([98,97,115,101,32]++(ab m++32 :: ab n))=[mI,ab m,ab n]:=by
 show parts 32 (mI++32 :: (ab m++32 :: ab n))=_;rw[hZ (by decide),hZ (jL m),lN (jL n)]
def JY{s:aD}(m n:Int)(h:Nm s):parts 32 ([119,104,111,108,101,32]++(ab m++32 :: (ab n++32 :: s)))=[lD,ab m,ab n,s]:=by
 show parts 32 (lD++32 :: (ab m++32 :: (ab n++32 :: s)))=_;rw[hZ (by decide),hZ (jL m),hZ (jL n),lN (nL h).1]
def MT{s:aD}(m n:Int)(h:Nm s):parts 32 ([110,101,97,114,32]++(ab m++32 :: (ab n++32 :: s)))=[lh,ab m,ab n,s]:=by
 show parts 32 (lh++32 :: (ab m++32 :: (ab n++32 :: s)))=_;rw[hZ (by decide),hZ (jL m),hZ (jL n),lN (nL h).1]
def ry{a b n:Int}(h:ij a b n)(ha : -9223372036854775808<=a)(hb:b<=9223372036854775807):cP (ab n)=some n:=Ps (b7 ha h.1) (b7 h.2 hb)
def Wr:Reads pE where
 xq o s h:=by
  have:=nK o false (pF s) (B9 (by decide));rw[show iH false++pF s=pF s from rfl,MQ h]at this;exact this
 word o n h:=by
  have:=nK o false (pG n) (La (by decide));rw[show iH false++pG n=pG n from rfl,MR]at this;rw[this];show(if jV=kr then some (p4 o (ab n))else if jV=jV then(cP (ab n)).map (p5 o)else none)=_;rw[if_neg (by decide),if_pos rfl,ry h (by decide) (by decide)];rfl
 sym o y h h':=by
  have:=nK o y.2.2.1 ([115,121,109,98,111,108,32]++(y.1++32 :: ab y.2.1)) (B9 (by decide));rw[PF h]at this;refine Eq.trans this ?_;dsimp only[nf];rw[if_pos rfl,ry h' (by decide) (by decide)];rfl
 tie o t h:=by
  obtain⟨at',k,ad,nm,b,_⟩:=t;have ha:=ry h.a (by decide) (by decide);have hw:=ry h.w (by decide) (by decide);simp only at ha hw;unfold xr;rcases h.k with e|e|e
  ·have hb:=h.base e
   simp only at e hb;obtain⟨rfl,rfl⟩:=hb;subst e;rw[if_pos rfl];have:=nK o false ([98,97,115,101,32]++(ab at'++32 :: ab ad)) (B9 (by decide));rw[MS]at this;refine this.trans ?_;dsimp only[nf];rw[if_neg (by decide),if_pos rfl];unfold AL;rw[ha,hw]
  ·have hn:=h.nm (by rw[show _=_ from e];decide)
   simp only at e hn;subst e;rw[if_neg (by simp),if_pos rfl];have:=nK o b ([119,104,111,108,101,32]++(ab at'++32 :: (ab ad++32 :: nm))) (La (by decide));rw[JY _ _ hn]at this;refine this.trans ?_;dsimp only[nf];rw[if_pos (.inl rfl),if_neg (by decide)];unfold AL;rw[ha,hw]
  ·have hn:=h.nm (by rw[show _=_ from e];decide)
   simp only at e hn;subst e;rw[if_neg (by simp),if_neg (by simp)];have:=nK o b ([110,101,97,114,32]++(ab at'++32 :: (ab ad++32 :: nm))) (B9 (by decide));rw[MT _ _ hn]at this;refine this.trans ?_;dsimp only[nf];rw[if_pos (.inr rfl),if_pos rfl];unfold AL;rw[ha,hw]
def MU{o:D aA}(h:kZ o):∀l∈qJ o,(10:UInt8)∉l:=by
 intro l hl;unfold qJ at hl;simp only[au,bf]at hl;have hw:∀b,(10:UInt8)∉iH b:=by intro b;cases b <;> decide
 rcases hl with⟨s,hs,rfl⟩|⟨n,hn,rfl⟩|⟨y,hy,rfl⟩|⟨t,ht,rfl⟩
 ·have:=(nL (h.Gd s hs)).2
  unfold pF;simp[this]
 ·have:=ng n
  unfold pG;simp[this]
 ·have h1:=(nL (h.syms y hy).1).2
  have h2:=ng y.2.1;have h3:=hw y.2.2.1;unfold AM;simp[h1,h2,h3]
 ·have h1:=ng t.1
  have h2:=ng t.2.2.1;have h3:=hw t.2.2.2.2.1;unfold xr;split
  ·simp[h1,h2]
  ·rename_i hk
   have h4:=(nL ((h.MM t ht).nm hk)).2;split <;> simp[h1,h2,h3,h4]
def SL{o:D aA}(h:kZ o):qJ o≠[]:=by
 have h1:=h.w1;unfold qJ;intro e;simp only[List.append_eq_nil_iff,List.map_eq_nil_iff]at e;rw[e.2.1]at h1;simp at h1
def MV(s:aD):Option (D aA):=run pE (bY aA) (parts 10 (ae s [10]))
def sO{o:D aA}(h:cX o=0):MV (iI o)=some o:=by
 have ok:=nc h;unfold MV;rw[JX,ML (SL ok) (MU ok),PE Wr ok]
def PG{o p:D aA}(h:cX o=0)(h':cX p=0)(e:iI o=iI p):o=p:=by
 have a:=sO h;rw[e,sO h']at a;exact(dy a).symm
open Classical in
def cR(s:aD):D aA×Int:=
 if s.length > 1200 then(bY aA,2)
 else if h:∃o:D aA,cX o=0/\iI o=s then(b9 h,0)else(bY aA,4)
def EH{s:aD}(h:s.length > 1200):cR s=(bY aA,2):=by unfold cR;rw[if_pos h]
def Dj{s:aD}{o:D aA}(h:¬s.length > 1200)(hf:cX o=0)(ht:iI o=s):cR s=(o,0):=by
 have hx:∃o:D aA,cX o=0/\iI o=s:=⟨o,hf,ht⟩
 have hc:=cz hx;unfold cR;rw[if_neg h,dif_pos hx,PG hc.1 hf (hc.2.trans ht.symm)]
def AO{s:aD}(h:¬s.length > 1200)(hn:∀o:D aA,cX o=0->iI o≠s):cR s=(bY aA,4):=by
 unfold cR;rw[if_neg h,dif_neg fun⟨o,h1,h2⟩=>hn o h1 h2]
def MW{s:aD}(h:¬s.length > 1200)(hr:MV s=none):cR s=(bY aA,4):=
 AO h fun o h1 h2=>by rw[<-h2,sO h1]at hr;cases hr
def Ca{s:aD}{o:D aA}(h:¬s.length > 1200)(hr:MV s=some o)(hb:cX o=0->iI o≠s):cR s=(bY aA,4):=
 AO h fun p h1 h2=>by
  have:p=o:=by rw[<-h2,sO h1]at hr;exact dy hr
  rw[this]at h1 h2;exact hb h1 h2
def gG(o:D aA)(b:Bool)(s:aD):D aA×Bool:=
 let w:=parts 32 (ax s dU)
 if nth .str w 0=kr/\w.length=2 then(p4 o (nth .str w 1),b)
 else if nth .str w 0=jV/\w.length=2 then(p5 o (dX (nth .str w 1)).1,b || (cP (nth .str w 1)).isNone)
 else if nth .str w 0=jj/\w.length=3 then(ub o (nth .str w 1,(dX (nth .str w 2)).1,av s dU,()),b || (cP (nth .str w 2)).isNone)
 else if nth .str w 0=mI/\w.length=3 then(pD o ((dX (nth .str w 1)).1,1,(dX (nth .str w 2)).1,[],false,()),(b || (cP (nth .str w 1)).isNone) || (cP (nth .str w 2)).isNone)
 else if(nth .str w 0=lD\/nth .str w 0=lh)/\w.length=4 then
  (pD o ((dX (nth .str w 1)).1,if nth .str w 0=lh then 3 else 2,(dX (nth .str w 2)).1,nth .str w 3,av s dU,()),(b || (cP (nth .str w 1)).isNone) || (cP (nth .str w 2)).isNone)
 else(o,true)
def nh{s:aD}{n:Int}(h:cP s=some n):(dX s).1=n:=by
 unfold cP at h;unfold dX;cases ha:b6 s with
 |ok v=>rw[ha]at h;simp only at h ⊢;split at h <;> simp_all
 |range=>rw[ha]at h;cases h
 |_=>rw[ha]at h;cases h
def MX(o:D aA)(b:Bool)(s:aD):(∃p,pE o s=some p/\gG o b s=(p,b))\/(pE o s=none/\(gG o b s).2=true):=by
 unfold pE gG;generalize hw:parts 32 (ax s dU)=w;generalize av s dU=k;have hne:=AH 32 (ax s dU);rw[hw]at hne
 match w,hne with
 |[],hne=>exact absurd rfl hne
 |[a],_=>exact .inr ⟨rfl,by simp⟩
 |[a,x],_=>
  dsimp only[nf];simp only[show nth .str [a,x] 0=a from rfl,show nth .str [a,x] 1=x from rfl];by_cases h1:a=kr
  ·rw[if_pos h1,if_pos (show(a=kr)/\[a,x].length=2 from⟨h1,rfl⟩)];exact .inl ⟨_,rfl,rfl⟩
  ·rw[if_neg h1,if_neg (show ¬((a=kr)/\[a,x].length=2)from fun e=>h1 e.1)]
   by_cases h2:a=jV
   ·rw[if_pos h2,if_pos (show(a=jV)/\[a,x].length=2 from⟨h2,rfl⟩)]
    cases hn:cP x with
    |none=>exact .inr ⟨rfl,by simp⟩
    |some n=>exact .inl ⟨_,rfl,by rw[nh hn];simp⟩
   ·rw[if_neg h2,if_neg (show ¬((a=jV)/\[a,x].length=2)from fun e=>h2 e.1),if_neg (show ¬((a=jj)/\[a,x].length=3)from fun e=>absurd e.2 (by simp)),if_neg (show ¬((a=mI)/\[a,x].length=3)from fun e=>absurd e.2 (by simp)),if_neg (show ¬((a=lD\/a=lh)/\[a,x].length=4)from fun e=>absurd e.2 (by simp))];exact .inr ⟨rfl,rfl⟩
 |[a,x,y],_=>
  dsimp only[nf];simp only[show nth .str [a,x,y] 0=a from rfl,show nth .str [a,x,y] 1=x from rfl,show nth .str [a,x,y] 2=y from rfl];rw[if_neg (show ¬((a=kr)/\[a,x,y].length=2)from fun e=>absurd e.2 (by simp)),if_neg (show ¬((a=jV)/\[a,x,y].length=2)from fun e=>absurd e.2 (by simp))];by_cases h1:a=jj
  ·rw[if_pos h1,if_pos (show(a=jj)/\[a,x,y].length=3 from⟨h1,rfl⟩)]
   cases hn:cP y with
   |none=>exact .inr ⟨rfl,by simp⟩
   |some n=>exact .inl ⟨_,rfl,by rw[nh hn];simp⟩
  ·rw[if_neg h1,if_neg (show ¬((a=jj)/\[a,x,y].length=3)from fun e=>h1 e.1)]
   by_cases h2:a=mI
   ·rw[if_pos h2,if_pos (show(a=mI)/\[a,x,y].length=3 from⟨h2,rfl⟩)]
    unfold AL;cases hm:cP x with
    |none=>exact .inr ⟨rfl,by simp⟩
    |some m=>
     cases hn:cP y with
     |none=>exact .inr ⟨rfl,by simp⟩
     |some n=>exact .inl ⟨_,rfl,by rw[nh hn,nh hm];simp⟩
   ·rw[if_neg h2,if_neg (show ¬((a=mI)/\[a,x,y].length=3)from fun e=>h2 e.1),if_neg (show ¬((a=lD\/a=lh)/\[a,x,y].length=4)from fun e=>absurd e.2 (by simp))];exact .inr ⟨rfl,rfl⟩
 |[a,x,y,z],_=>
  dsimp only[nf];simp only[show nth .str [a,x,y,z] 0=a from rfl,show nth .str [a,x,y,z] 1=x from rfl,show nth .str [a,x,y,z] 2=y from rfl,show nth .str [a,x,y,z] 3=z from rfl];rw[if_neg (show ¬((a=kr)/\[a,x,y,z].length=2)from fun e=>absurd e.2 (by simp)),if_neg (show ¬((a=jV)/\[a,x,y,z].length=2)from fun e=>absurd e.2 (by simp)),if_neg (show ¬((a=jj)/\[a,x,y,z].length=3)from fun e=>absurd e.2 (by simp)),if_neg (show ¬((a=mI)/\[a,x,y,z].length=3)from fun e=>absurd e.2 (by simp))];by_cases h1:a=lD\/a=lh
  ·rw[if_pos h1,if_pos (show(a=lD\/a=lh)/\[a,x,y,z].length=4 from⟨h1,rfl⟩)]
   unfold AL;cases hm:cP x with
   |none=>exact .inr ⟨rfl,by simp⟩
   |some m=>
    cases hn:cP y with
    |none=>exact .inr ⟨rfl,by simp⟩
    |some n=>exact .inl ⟨_,rfl,by rw[nh hn,nh hm];simp⟩
  ·rw[if_neg h1,if_neg (show ¬((a=lD\/a=lh)/\[a,x,y,z].length=4)from fun e=>h1 e.1)];exact .inr ⟨rfl,rfl⟩
 |a :: x :: y :: z :: u :: r,_=>exact .inr ⟨rfl,by simp⟩
def PH(o:D aA)(s:aD):(gG o true s).2=true:=by
 unfold gG;simp only[Bool.true_or];split
 ·rfl
 ·split
  ·rfl
  ·split
   ·rfl
   ·split
    ·rfl
    ·split <;> rfl
def PI(o:D aA)(b:Bool)(s:aD) :
  (gG o b s).1.1.length<=o.1.length+1/\(gG o b s).1.2.1.length<=o.2.1.length+1/\(gG o b s).1.2.2.1.length<=o.2.2.1.length+1/\(gG o b s).1.2.2.2.1.length<=o.2.2.2.1.length+1:=by
 have e:∀{α:Type} (l:List α) (x:α),(l++[x]).length<=l.length+1:=fun l x=>by simp
 have e0:∀n:Nat,n<=n+1:=fun n=>Nat.le_succ n
 unfold gG;simp only;split
 ·exact⟨e _ _,e0 _,e0 _,e0 _⟩
 ·split
  ·exact⟨e0 _,e _ _,e0 _,e0 _⟩
  ·split
   ·exact⟨e0 _,e0 _,e _ _,e0 _⟩
   ·split
    ·exact⟨e0 _,e0 _,e0 _,e _ _⟩
    ·split
     ·exact⟨e0 _,e0 _,e0 _,e _ _⟩
     ·exact⟨e0 _,e0 _,e0 _,e0 _⟩
structure lE (L:List aD) (i:Nat) (o:D aA) (b:Bool):Prop where
 le:i<=L.length
 st:(run pE (bY aA) (L.take i)=some o/\b=false)\/(run pE (bY aA) (L.take i)=none/\b=true)
 l1:o.1.length<=i
 l2:o.2.1.length<=i
 l3:o.2.2.1.length<=i
 l4:o.2.2.2.1.length<=i
def lE.zero(L:List aD):lE L 0 (bY aA) false:=⟨ar _,.inl ⟨rfl,rfl⟩,ak _,ak _,ak _,ak _⟩
def lE.next{L:List aD}{i:Nat}{o:D aA}{b:Bool}(h:lE L i o b)(hi:i<L.length):lE L (i+1) (gG o b (nth .str L i)).1 (gG o b (nth .str L i)).2:=by
 obtain⟨a1,a2,a3,a4⟩:=PI o b (nth .str L i);refine⟨hi,?_,by have:=h.l1;omega,by have:=h.l2;omega,by have:=h.l3;omega,by have:=h.l4;omega⟩;rw[iG (t:=.str) hi,Hz];rcases h.st with⟨hr,hb⟩|⟨hr,hb⟩
 ·rw[hr,fj]
  rcases MX o b (nth .str L i)with⟨p,h1,h2⟩|⟨h1,h2⟩
  ·rw[h2];exact .inl ⟨h1,hb⟩
  ·exact .inr ⟨h1,h2⟩
 ·rw[hr,hb];exact .inr ⟨rfl,PH o _⟩
abbrev Rd:=aD->aD×Int×Int
structure iJ (rd:Rd):Prop where
 code:∀s,(rd s).2.2=0\/(rd s).2.2=5
 mJ:∃K:List aD,K.length<=6/\∀s,(rd s).2.2=0->s∈K
def gA(ns l:List aD):List aD:=l.foldl (fun ns s=>if ns.any (· == s)=true then ns else ns++[s]) ns
def jt(rd:Rd)(s:aD):D aA:=(cR (rd s).1).1
def eK(rd:Rd)(s:aD):Int:=if(rd s).2.2=0 then(cR (rd s).1).2 else(rd s).2.2
def jd(rd:Rd):Nat->Nat->List aD->List (D aA)->List aD×List (D aA)×Int
 |0,_,ns,os=>(ns,os,0)
 |k+1,i,ns,os=>
  if i<ns.length then
   if eK rd (nth .str ns i)=0 then jd rd k (i+1) (gA ns (jt rd (nth .str ns i)).1) (os++[jt rd (nth .str ns i)])
   else([],[],eK rd (nth .str ns i))
  else(ns,os,0)
def bE(rd:Rd)(root:aD):List aD×List (D aA)×Int:=jd rd 7 0 [root] []
def Cb(s:aD):((cR s).2=0/\cX (cR s).1=0/\iI (cR s).1=s)\/cR s=(bY aA,2)\/cR s=(bY aA,4):=by
 by_cases h:s.length > 1200
 ·exact .inr (.inl (EH h))
 ·by_cases h2:∃o:D aA,cX o=0/\iI o=s
  ·obtain⟨o,h3,h4⟩:=h2
   rw[Dj h h3 h4];exact .inl ⟨rfl,h3,h4⟩
  ·exact .inr (.inr (AO h fun o h3 h4=>h2 ⟨o,h3,h4⟩))
def zG(s:aD):0<=(cR s).2:=by
 rcases Cb s with⟨h,_⟩|h|h <;> rw[h] <;> decide
def vf{s:aD}(h:(cR s).2=0):cX (cR s).1=0:=by
 rcases Cb s with⟨_,h,_⟩|h'|h'
 ·exact h
 ·rw[h']at h;cases h
 ·rw[h']at h;cases h
def Dl{rd:Rd}(h:iJ rd)(s:aD):0<=eK rd s:=by
 unfold eK;split
 ·exact zG _
 ·rcases h.code s with e|e <;> rw[e] <;> decide
def kf{rd:Rd}(h:iJ rd){s:aD}(e:eK rd s=0):(rd s).2.2=0/\(cR (rd s).1).2=0:=by
 unfold eK at e;rcases h.code s with c|c
 ·rw[if_pos c]at e;exact⟨c,e⟩
 ·rw[if_neg (by rw[c];decide),c]at e;cases e
def xu{rd:Rd}{s:aD}(e:¬(rd s).2.2=0):eK rd s=(rd s).2.2:=by unfold eK;rw[if_neg e]
def tp{rd:Rd}{s:aD}(e:(rd s).2.2=0):eK rd s=(cR (rd s).1).2:=by unfold eK;rw[if_pos e]
def HC(ns:List aD):gA ns []=ns:=rfl
def xv(ns l:List aD)(s:aD):gA ns (s :: l)=gA (if ns.any (· == s)=true then ns else ns++[s]) l:=rfl
def PJ(ns l:List aD)(s:aD):gA ns (l++[s])=if(gA ns l).any (· == s)=true then gA ns l else gA ns l++[s]:=by
 unfold gA;rw[List.foldl_append];rfl
def Lb{ns:List aD}{s:aD}:ns.any (· == s)=true↔s∈ns:=by
 rw[cw];constructor
 ·rintro⟨x,hx,e⟩;rw[<-(by simpa using e:x=s)];exact hx
 ·intro h;exact⟨s,h,by simp⟩
def oQ:∀(l ns:List aD),∃r,gA ns l=ns++r/\r.length<=l.length/\∀s∈r,s∈l
 |[],ns=>⟨[],by simp[HC],by simp,by simp⟩
 |x :: l,ns=>by
  rw[xv];split
  ·obtain⟨r,h1,h2,h3⟩:=oQ l ns
   exact⟨r,h1,by simp;omega,fun s hs=>by simp[h3 s hs]⟩
  ·obtain⟨r,h1,h2,h3⟩:=oQ l (ns++[x])
   refine⟨x :: r,by rw[h1];simp,by simp;omega,fun s hs =>?_⟩;rcases ag.1 hs with rfl|hs
   ·simp
   ·simp[h3 s hs]
def vg:∀(l ns:List aD),ns.Nodup->(gA ns l).Nodup
 |[],ns,h=>h
 |x :: l,ns,h=>by
  rw[xv];split
  ·exact vg l ns h
  ·rename_i hx
   refine vg l _ ?_;rw[fb];refine⟨h,by simp,fun a ha b hb e=>hx (Lb.2 ?_)⟩;simp at hb;subst hb;exact e▸ha
def HD:∀(l ns:List aD),∀s∈l,s∈gA ns l
 |[],_,s,h=>by simp at h
 |x :: l,ns,s,h=>by
  rw[xv];rcases ag.1 h with rfl|h
  ·split
   ·rename_i hx
    obtain⟨r,h1,_⟩:=oQ l ns;rw[h1];exact eg _ (Lb.1 hx)
   ·obtain⟨r,h1,_⟩:=oQ l (ns++[s])
    rw[h1];simp
  ·exact HD l _ s h
def EI{ns l:List aD}{i:Nat}(h:i<l.length):gA ns (l.take (i+1))=if(gA ns (l.take i)).any (· == nth .str l i)=true then gA ns (l.take i)else gA ns (l.take i)++[nth .str l i]:=by
 rw[iG (t:=.str) h,PJ]
def sP{t:Ty}{a b:List (D t)}{i:Nat}(h:i<a.length):nth t (a++b) i=nth t a i:=by rw[px,if_pos h]
structure la (rd:Rd) (root:aD) (i:Nat) (ns:List aD) (os:List (D aA)):Prop where
 eq:jd rd (7-i) i ns os=bE rd root
 le:i<=6
 lo:i<=ns.length
 pos:0<ns.length
 len:os.length=i
 hi:ns.length<=1+4*i
 head:nth .str ns 0=root
 nd:ns.Nodup
 xw:∀j,j<i->eK rd (nth .str ns j)=0/\nth aA os j=jt rd (nth .str ns j)
 want:∀j,j<ns.length->j≠0->∃k,k<i/\k<j/\nth .str ns j∈(nth aA os k).1
 xq:∀j,j<i->∀s∈(nth aA os j).1,s∈ns
def la.zero(rd:Rd)(root:aD):la rd root 0 [root] []:=
 ⟨rfl,by omega,by simp,by simp,rfl,by simp,rfl,by simp,fun j h=>by omega,fun j h h'=>by simp at h;omega,fun j h=>by omega⟩
def la.room{rd:Rd}{root:aD}{i:Nat}{ns:List aD}{os:List (D aA)}(ok:iJ rd)(h:la rd root i ns os)(hi:i<ns.length)(hf:eK rd (nth .str ns i)=0):i+1<=6:=by
 obtain⟨K,hK,hm⟩:=ok.mJ;have hsub:∀y∈ns.take (i+1),y∈K:=by
  intro y hy;obtain⟨j,hj,rfl⟩:=gR (t:=.str) hy;rw[bh]at hj;rw[AF (t:=.str) (by omega)];refine hm _ (kf ok ?_).1;rcases bg j i with hl|hl
  ·exact(h.xw j hl).1
  ·rw[show j=i by omega];exact hf
 have:=Er (h.nd.sublist (List.take_sublist (i+1) ns)) hsub;rw[bh]at this;omega
def la.fuel{rd:Rd}{root:aD}{i:Nat}{ns:List aD}{os:List (D aA)}(h:la rd root i ns os):jd rd (6-i+1) i ns os=bE rd root:=by
 rw[<-h.eq];congr 1;have:=h.le;omega
def la.bad{rd:Rd}{root:aD}{i:Nat}{ns:List aD}{os:List (D aA)}(h:la rd root i ns os)(hi:i<ns.length)(hf:¬eK rd (nth .str ns i)=0) :
  bE rd root=([],[],eK rd (nth .str ns i)):=by
 rw[<-h.fuel,jd,if_pos hi,if_neg hf]
def la.done{rd:Rd}{root:aD}{i:Nat}{ns:List aD}{os:List (D aA)}(h:la rd root i ns os)(hi:¬i<ns.length):bE rd root=(ns,os,0):=by
 rw[<-h.fuel,jd,if_neg hi]
def AP{rd:Rd}(ok:iJ rd){s:aD}(hf:eK rd s=0):kZ (jt rd s):=nc (vf (kf ok hf).2)
def la.next{rd:Rd}{root:aD}{i:Nat}{ns:List aD}{os:List (D aA)}(ok:iJ rd)(h:la rd root i ns os)(hi:i<ns.length)(hf:eK rd (nth .str ns i)=0) :
  la rd root (i+1) (gA ns (jt rd (nth .str ns i)).1) (os++[jt rd (nth .str ns i)]):=by
 have hr:=h.room ok hi hf;have ho:=AP ok hf;obtain⟨r,h1,h2,h3⟩:=oQ (jt rd (nth .str ns i)).1 ns;have hn4:=ho.n4;have hlen:=h.len;have hhi:=h.hi;have hpos:=h.pos;have hos:nth aA (os++[jt rd (nth .str ns i)]) i=jt rd (nth .str ns i):=by rw[px,if_neg (by omega),h.len,Nat.sub_self];rfl
 have hns:∀j,j<ns.length->nth .str (gA ns (jt rd (nth .str ns i)).1) j=nth .str ns j:=fun j hj=>by rw[h1,sP (t:=.str) hj]
 have hoj:∀j,j<i->nth aA (os++[jt rd (nth .str ns i)]) j=nth aA os j:=fun j hj=>sP (t:=aA) (by omega)
 refine⟨?_,hr,by rw[h1,aw];omega,by rw[h1,aw];omega,by rw[aw,h.len];rfl,by rw[h1,aw];omega,
  by rw[hns 0 hpos];exact h.head,vg _ _ h.nd,fun j hj =>?_,fun j hj h0 =>?_,fun j hj s hs =>?_⟩
 ·rw[<-h.fuel,jd,if_pos hi,if_pos hf];congr 1;omega
 ·rcases bg j i with hl|hl
  ·rw[hns j (by omega),hoj j hl];exact h.xw j hl
  ·rw[show j=i by omega,hns i hi,hos];exact⟨hf,rfl⟩
 ·rcases bg j ns.length with hl|hl
  ·obtain⟨k,k1,k2,k3⟩:=h.want j hl h0
   exact⟨k,by omega,k2,by rw[hns j hl,hoj k k1];exact k3⟩
  ·refine⟨i,by omega,by omega,?_⟩
   rw[hos,h1,px,if_neg (by omega)];refine h3 _ (dV (t:=.str) ?_);rw[h1,aw]at hj;omega
 ·rcases bg j i with hl|hl
  ·rw[hoj j hl]at hs
   rw[h1];exact eg _ (h.xq j hl s hs)
  ·rw[show j=i by omega,hos]at hs
   exact HD _ _ s hs
structure Scope (rd:Rd) (root:aD) (ns:List aD) (os:List (D aA)):Prop where
 le:ns.length<=6
 pos:0<ns.length
 len:os.length=ns.length
 head:nth .str ns 0=root
 nd:ns.Nodup
 xw:∀j,j<ns.length->eK rd (nth .str ns j)=0/\nth aA os j=jt rd (nth .str ns j)
 want:∀j,j<ns.length->j≠0->∃k,k<j/\nth .str ns j∈(nth aA os k).1
 xq:∀j,j<ns.length->∀s∈(nth aA os j).1,s∈ns
def Cc{rd:Rd}{root:aD}(ok:iJ rd):∀(m i:Nat) (ns:List aD) (os:List (D aA)),m=7-i->la rd root i ns os->
  (∃f,0<f/\bE rd root=([],[],f))\/(∃ns os,bE rd root=(ns,os,0)/\Scope rd root ns os)
 |0,i,ns,os,hm,h=>by have:=h.le;omega
 |m+1,i,ns,os,hm,h=>by
  by_cases hi:i<ns.length
  ·by_cases hf:eK rd (nth .str ns i)=0
   ·exact Cc ok m (i+1) _ _ (by omega) (h.next ok hi hf)
   ·have:=Dl ok (nth .str ns i)
    exact .inl ⟨_,by omega,h.bad hi hf⟩
  ·have h1:=h.lo
   have h2:=h.le;have e:i=ns.length:=by omega
   subst e;exact .inr ⟨ns,os,h.done hi,h2,h.pos,h.len,h.head,h.nd,h.xw,fun j hj h0=>let⟨k,_,k2,k3⟩:=h.want j hj h0;⟨k,k2,k3⟩,h.xq⟩
def zH{rd:Rd}(ok:iJ rd)(root:aD):(∃f,0<f/\bE rd root=([],[],f))\/(∃ns os,bE rd root=(ns,os,0)/\Scope rd root ns os):=
 Cc ok 7 0 _ _ rfl (la.zero rd root)
def AQ{rd:Rd}(ok:iJ rd){root:aD}(h:(bE rd root).2.2=0):Scope rd root (bE rd root).1 (bE rd root).2.1:=by
 rcases zH ok root with⟨f,hf,e⟩|⟨ns,os,e,h'⟩
 ·rw[e]at h;simp only at h;omega
 ·rw[e];exact h'
def Cd(rd:Rd):∀(k i:Nat) (ns:List aD) (os:List (D aA)),(jd rd k i ns os).2.2=0->∀s∈ns,s∈(jd rd k i ns os).1
 |0,_,ns,os,_=>fun s hs=>hs
 |k+1,i,ns,os,h=>by
  unfold jd at h ⊢;split
  ·rename_i hi
   rw[if_pos hi]at h;split
   ·rename_i hf
    rw[if_pos hf]at h;obtain⟨r,h1,_⟩:=oQ (jt rd (nth .str ns i)).1 ns;intro s hs;exact Cd rd k _ _ _ h s (by rw[h1];exact eg _ hs)
   ·rename_i hf
    rw[if_neg hf]at h;exact absurd h hf
  ·exact fun s hs=>hs
def xx{rd rd':Rd}:∀(k i:Nat) (ns:List aD) (os:List (D aA)),(jd rd k i ns os).2.2=0->(∀s∈(jd rd k i ns os).1,rd' s=rd s)->jd rd' k i ns os=jd rd k i ns os
 |0,_,ns,os,_,_=>rfl
 |k+1,i,ns,os,h,hs=>by
  by_cases hi:i<ns.length
  ·have hm:=hs _ (Cd rd (k+1) i ns os h _ (dV (t:=.str) hi))
   have e1:eK rd' (nth .str ns i)=eK rd (nth .str ns i):=by unfold eK;rw[hm]
   have e2:jt rd' (nth .str ns i)=jt rd (nth .str ns i):=by unfold jt;rw[hm]
   unfold jd at h hs ⊢;rw[if_pos hi]at h hs ⊢;rw[if_pos hi,e1,e2];by_cases hf:eK rd (nth .str ns i)=0
   ·rw[if_pos hf]at h hs ⊢
    rw[if_pos hf];exact xx k _ _ _ h hs
   ·rw[if_neg hf,if_neg hf]
  ·unfold jd;rw[if_neg hi,if_neg hi]
def JZ{rd rd':Rd}{root:aD}(h:(bE rd root).2.2=0)(hs:∀s∈(bE rd root).1,rd' s=rd s):bE rd' root=bE rd root:=xx _ _ _ _ h hs
def jB{x:dA}(h:x.2.1.1.length<=6):iJ (aL x):=by
 refine⟨fun s =>?_,x.2.1.1.map pz,by rw[ec];exact h,fun s hs =>?_⟩
 ·unfold aL;split
  ·exact .inl rfl
  ·exact .inr rfl
 ·by_cases c:cT cI x.2.1.1 s=true
  ·obtain⟨y,hy,e⟩:=lY.1 c
   rw[<-e];exact bw hy
  ·rw[lL (by simpa using c)]at hs;cases hs
def uc:∀{s:List Int} {l:List (D aZ)} {out o:List Int},gS l s out=some o->∃ext,o=out++ext/\ext.length=s.length:=by
 intro s;induction s with
 |nil=>intro l out o h;simp only[gS,df]at h;exact⟨[],by simp[h],rfl⟩
 |cons n r ih=>
  intro l out o h;simp only[gS]at h;split at h
  ·cases h
  ·obtain⟨ext,h1,h2⟩:=ih h
   exact⟨_ :: ext,by rw[h1,cu];rfl,by simp[h2]⟩
def HE{l:List (D aZ)}{s o:List Int}{k:Nat}(hk:k<s.length)(h:gS l (s.drop k) (o.take k)=some o)(hl:o.length=s.length) :
  (nth (.int .i64) o k:Int)=gy l (cK (nth (.int .i64) s k)) 40 0/\gy l (cK (nth (.int .i64) s k)) 40 0+cK (nth (.int .i64) s k)<=256/\
  gS (l++[(gy l (cK (nth (.int .i64) s k)) 40 0,cK (nth (.int .i64) s k),())]) (s.drop (k+1)) (o.take (k+1))=some o:=by
 rw[rX hk]at h;split at h
 ·cases h
 ·rename_i hle
  obtain⟨ext,h1,h2⟩:=uc h;have hlen:(o.take k).length=k:=by rw[bh];omega
  have hget:o[k]?=some (gy l (cK (nth (.int .i64) s k)) 40 0):=by
   rw[h1,cu,List.getElem?_append_right (by omega),hlen,Nat.sub_self];rfl
  refine⟨jc (t:=.int .i64) hget,by omega,?_⟩;have:o.take (k+1)=o.take k++[gy l (cK (nth (.int .i64) s k)) 40 0]:=by
   rw[dx,hget];rfl
  rw[this];exact h
def MY{s:List Int}{l:List (D aZ)}(h:(cL (s,l)).2.isNil=true) :
  s.length<=6/\l.length<=20/\(∀j,j<s.length->1<=(nth (.int .i64) s j:Int)/\(nth (.int .i64) s j:Int)<=40)/\(∀y∈l,nR y)/\gS l s []=some (cL (s,l)).1/\(cL (s,l)).1.length=s.length:=by
 by_cases h1:6<s.length\/20<l.length
 ·rw[y7 h1]at h;cases h
 ·by_cases h2:AD s=true\/AE l=true
  ·unfold cL at h;rw[if_neg h1,if_pos h2]at h;cases h
  ·have hs:∀j,j<s.length->1<=(nth (.int .i64) s j:Int)/\(nth (.int .i64) s j:Int)<=40:=by
    intro j hj;apply aq;intro hn;rw[y8 h1 hj hn]at h;cases h
   have ht:∀j,j<l.length->nR (nth aZ l j):=by
    intro j hj;apply aq;intro hn;rw[wX h1 hj hn]at h;cases h
   rw[wY h1 hs ht]at h ⊢;refine⟨by omega,by omega,hs,fun y hy =>?_,?_⟩
   ·obtain⟨i,hi,e⟩:=gR (t:=aZ) hy;rw[<-e];exact ht i hi
   ·split at h
    ·rename_i o ho
     obtain⟨ext,k1,k2⟩:=uc ho;simp only[ho];exact⟨aa,by rw[k1];simpa using k2⟩
    ·cases h
end Go.Mrl
namespace Go.Mrl
open Go.Vg
def J0{n:Int}:n<=cK n/\cK n<n+16:=by unfold cK;omega
end Go.Mrl

namespace Go.Mrl
open Go.Vg
def jb(s:List Int):Nat->Int
 |0=>0
 |k+1=>jb s k+cK (nth (.int .i64) s k)
def vh(l:List (Int×Int×Unit))(S:Int):Prop:=0<=S/\(∃m:Nat,S=16*(m:Int))/\(∀y∈l,y.1+y.2.1<=S)/\∀p:Int,0<=p->p<S->∃y∈l,y.1<=p/\p<y.1+y.2.1
def vh.nil:vh [] 0:=⟨az _,⟨0,rfl⟩,fun y hy=>by simp at hy,fun p h1 h2=>by omega⟩
def vh.snoc{l:List (Int×Int×Unit)}{S m:Int}(h:vh l S)(hm:0<m)(h16:∃k:Nat,m=16*(k:Int)):vh (l++[(S,m,())]) (S+m):=by
 obtain⟨h1,⟨a,h2⟩,h3,h4⟩:=h;obtain⟨k,h5⟩:=h16;refine⟨by omega,⟨a+k,by omega⟩,fun y hy =>?_,fun p h6 h7 =>?_⟩
 ·rcases au.1 hy with hy|hy
  ·have:=h3 y hy;omega
  ·simp only[db]at hy;subst hy;simp only;omega
 ·by_cases c:p<S
  ·obtain⟨y,hy,h8⟩:=h4 p h6 c
   exact⟨y,by simp[hy],h8⟩
  ·exact⟨(S,m,()),by simp,by simp only;omega⟩
def vh.base{l:List (Int×Int×Unit)}{S many:Int}(h:vh l S)(hm:0<many):∀(n:Nat) (k:Nat),16*(k:Int)<=S->S-16*(k:Int)<16*(n:Int)->gy l many n (16*(k:Int))=S:=by
 obtain⟨h1,⟨a,h2⟩,h3,h4⟩:=h;intro n;induction n with
 |zero=>intro k hk hn;omega
 |succ n ih=>
  intro k hk hn;by_cases c:16*(k:Int)=S
  ·rw[c]
   apply qm;refine B1 fun j hj =>?_
   have:=h3 _ (dV (t:=aZ) hj);rw[JL];simp only;omega
  ·obtain⟨y,hy,h8,h9⟩:=h4 (16*(k:Int)) (by omega) (by omega)
   have hf:ja (16*(k:Int),many,()) l=false:=by
    obtain⟨j,hj,e⟩:=gR (t:=aZ) hy;refine y5 hj ?_;rw[e,wW];simp only;omega
   rw[El hf,show 16*(k:Int)+16=16*((k+1:Nat):Int) by omega];exact ih (k+1) (by omega) (by omega)
def U5{n:Int}(h:1<=n):∃k:Nat,cK n=16*(k:Int):=⟨((n+15) / 16).toNat,by unfold cK;omega⟩
def MZ{s:List Int}(hs:∀j,j<s.length->1<=(nth (.int .i64) s j:Int)/\(nth (.int .i64) s j:Int)<=40):∀d k,k+d<=s.length->jb s k<=jb s (k+d):=by
 intro d;induction d with
 |zero=>intro k _;exact az _
 |succ d ih=>
  intro k hk;have h1:=ih k (by omega);have h2:=hs (k+d) (by omega);have h3:=lu h2.1 h2.2;have e:jb s (k+(d+1))=jb s (k+d)+cK (nth (.int .i64) s (k+d)):=rfl;rw[e];omega
def SM{s:List Int}(hs:∀j,j<s.length->1<=(nth (.int .i64) s j:Int)/\(nth (.int .i64) s j:Int)<=40):∀(d k:Nat) {l:List (Int×Int×Unit)} {o:List Int},k+d=s.length->vh l (jb s k)->jb s k<=256->
  o.length=s.length->gS l (s.drop k) (o.take k)=some o->jb s s.length<=256/\∀i,k<=i->i<s.length->(nth (.int .i64) o i:Int)=jb s i:=by
 intro d;induction d with
 |zero=>
  intro k l o hk hc hle hl h;have e:k=s.length:=by omega
  subst e;exact⟨hle,fun i h1 h2=>by omega⟩
 |succ d ih=>
  intro k l o hk hc hle hl h;have h2:=hs k (by omega);have h3:=lu h2.1 h2.2;have hb:=hc.base (many:=cK (nth (.int .i64) s k)) (by omega) 40 0 (by have:=hc.1;omega) (by omega);simp only[Int.natCast_zero,Int.mul_zero]at hb;obtain⟨n1,n2,n3⟩:=HE (k:=k) (by omega) h hl;rw[hb]at n1 n2 n3;have e:jb s (k+1)=jb s k+cK (nth (.int .i64) s k):=rfl;obtain⟨r1,r2⟩:=ih (k+1) (by omega) (l:=l++[(jb s k,cK (nth (.int .i64) s k),())]) (by rw[e];exact hc.snoc (by omega) (U5 h2.1)) (by omega) hl n3;refine⟨r1,fun i h4 h5 =>?_⟩;rcases bg k i with c|c
  ·exact r2 i (by omega) h5
  ·rw[show i=k by omega];exact n1
def PK{s:List Int}(h:(cL (s,[])).2.isNil=true):(cL (s,[])).1.length=s.length/\(∀j,j<s.length->1<=(nth (.int .i64) s j:Int)/\(nth (.int .i64) s j:Int)<=40)/\
  jb s s.length<=256/\∀i,i<s.length->(nth (.int .i64) (cL (s,[])).1 i:Int)=jb s i:=by
 obtain⟨_,_,h3,_,h5,h6⟩:=MY h;obtain⟨r1,r2⟩:=SM h3 s.length 0 (l:=[]) (o:=(cL (s,[])).1) (by omega) vh.nil (by simp[jb]) h6 (by rw[ef,fk];exact h5);exact⟨h6,h3,r1,fun i hi=>r2 i (ar _) hi⟩
def cA(l:List (D aA)):List Int:=l.map fun o=>(o.2.1.length:Int)
def cY(l:List (D aA)):Ws:=l.map fun o=>o.2.1
def pH(l:List (D aA)):(cA l).length=l.length:=by simp[cA]
def nM(l:List (D aA)):(cY l).length=l.length:=by simp[cY]
def rA{t u:Ty}{f:D u->D t}{l:List (D u)}{i:Nat}(h:i<l.length):nth t (l.map f) i=f (nth u l i):=by
 unfold nth;rw[List.getD_eq_getElem?_getD,List.getD_eq_getElem?_getD,List.getElem?_map,List.getElem?_eq_getElem h];rfl
def Ce{l:List (D aA)}{i:Nat}(h:i<l.length):(nth (.int .i64) (cA l) i:Int)=((nth aA l i).2.1.length:Int):=rA (u:=aA) (t:=.int .i64) h
def vj{l:List (D aA)}{i:Nat}(h:i<l.length):nth ji (cY l) i=(nth aA l i).2.1:=rA (u:=aA) (t:=ji) h
def zI{l:List (D aA)}{i:Nat}(h:i<l.length):cA (l.take (i+1))=cA (l.take i)++[((nth aA l i).2.1.length:Int)]:=by
 unfold cA;rw[lK (t:=aA) h];simp
def zJ{l:List (D aA)}{i:Nat}(h:i<l.length):cY (l.take (i+1))=cY (l.take i)++[(nth aA l i).2.1]:=by
 unfold cY;rw[lK (t:=aA) h];simp
def AR(l:List (D aA))(b:List Int)(i:Nat)(ts:List (D bB)):List Pt:=ts.map fun t=>((i:Int),t.1,(gT l b i t).1,())
def qX(l:List (D aA))(b:List Int):List (D aA)->Nat->List Pt
 |[],_=>[]
 |o :: r,i=>AR l b i o.2.2.2.1++qX l b r (i+1)
def Lc{l:List (D aA)}{b:List Int}{i:Nat}:∀{ts:List (D bB)} {out:List Pt},(og l b i ts out).2.isNil=true->og l b i ts out=(out++AR l b i ts,.nil)/\∀t∈ts,(gT l b i t).2.isNil=true
 |[],out,_=>⟨by simp[og,AR],by simp⟩
 |t :: r,out,h=>by
  rw[og]at h ⊢;by_cases c:(gT l b i t).2.isNil=true
  ·rw[if_pos c]at h ⊢
   obtain⟨h1,h2⟩:=Lc h;refine⟨by rw[h1];simp[AR],fun u hu =>?_⟩;rcases ag.1 hu with rfl|hu
   ·exact c
   ·exact h2 u hu
  ·rw[if_neg c]at h;exact absurd h c
def Ld{l:List (D aA)}{b:List Int}:∀{os:List (D aA)} {i:Nat} {out:List Pt},(nS l b os i out).2.isNil=true->nS l b os i out=(out++qX l b os i,.nil)/\
  ∀k,k<os.length->∀t∈(nth aA os k).2.2.2.1,(gT l b ((i+k:Nat):Int) t).2.isNil=true
 |[],i,out,_=>⟨by simp[nS,qX],fun k hk=>by simp at hk⟩
 |o :: r,i,out,h=>by
  rw[nS]at h ⊢;unfold oB at h ⊢;by_cases c:(og l b i o.2.2.2.1 out).2.isNil=true
  ·rw[if_pos c]at h ⊢
   obtain⟨h1,h2⟩:=Lc c;obtain⟨h3,h4⟩:=Ld h;refine⟨by rw[h3,h1];simp[qX],fun k hk =>?_⟩;rcases k with _|k
   ·exact h2
   ·have:=h4 k (by simpa using hk)
    rw[show i+1+k=i+(k+1) by omega]at this;exact this
  ·rw[if_neg c]at h;exact absurd h c
def SN{l:List (D aA)}{b:List Int}(h:(iC (l,b)).2.isNil=true):b.length=l.length/\pL b/\(iC (l,b)).1=qX l b l 0/\∀k,k<l.length->∀t∈(nth aA l k).2.2.2.1,(gT l b (k:Int) t).2.isNil=true:=by
 have h':=h;unfold iC at h ⊢;split at h
 ·cases h
 ·rename_i hl
  split at h
  ·rename_i hb
   obtain⟨h1,h2⟩:=Ld h;refine⟨aq hl,hb,?_,fun k hk t ht=>by have:=h2 k hk t ht;rwa [dh]at this⟩;rw[if_neg hl,if_pos hb,h1];rfl
  ·cases h
def AS{l:List (D aA)}{b:List Int}:∀{os:List (D aA)} {i:Nat} {p:Pt},p∈qX l b os i->∃k t,k<os.length/\t∈(nth aA os k).2.2.2.1/\p=(((i+k:Nat):Int),t.1,(gT l b ((i+k:Nat):Int) t).1,())
 |[],i,p,h=>by simp[qX]at h
 |o :: r,i,p,h=>by
  rcases au.1 h with h|h
  ·obtain⟨t,ht,rfl⟩:=bf.1 h
   exact⟨0,t,by simp,ht,rfl⟩
  ·obtain⟨k,t,hk,ht,rfl⟩:=AS h
   exact⟨k+1,t,by simp;omega,ht,by rw[show i+1+k=i+(k+1) by omega]⟩
def Cf(x:List Int×List (D aZ)):Told (cL x).2:=by
 unfold cL;split
 ·rfl
 ·split
  ·rfl
  ·split <;> rfl
def SO(x:Ws×List Pt):Told (iX x).2:=by
 unfold iX;split <;> rfl
def ri{e:aM}(h:Told e):aI (jy e)=e:=by
 cases e with
 |nil=>rfl
 |no m=>
  have h':0<m:=by have:=h;simpa[Told,yn,jy]using this
  have h2:¬m=0:=by omega
  show aI m=_;unfold aI;rw[if_neg h2]
 |other=>unfold Told at h;simp[yn]at h
def HF{e:aM}(h:Told e)(hn:e.isNil=false):0<jy e:=by
 cases e with
 |nil=>cases hn
 |no m=>
  have h':0<m:=by have:=h;simpa[Told,yn,jy]using this
  exact h'
 |other=>unfold Told at h;simp[yn]at h
abbrev Rk:=List aD×List (D aA)×List Int×List Pt×Int
def aX(rd:Rd)(root:aD):Rk:=
 if ¬(bE rd root).2.2=0 then([],[],[],[],(bE rd root).2.2)
 else if(cL (cA (bE rd root).2.1,[])).2.isNil=false then([],[],[],[],jy (cL (cA (bE rd root).2.1,[])).2)
 else if(iC ((bE rd root).2.1,(cL (cA (bE rd root).2.1,[])).1)).2.isNil=false then([],[],[],[],jy (iC ((bE rd root).2.1,(cL (cA (bE rd root).2.1,[])).1)).2)
 else((bE rd root).1,(bE rd root).2.1,(cL (cA (bE rd root).2.1,[])).1,(iC ((bE rd root).2.1,(cL (cA (bE rd root).2.1,[])).1)).1,0)
def xy{rd:Rd}{root:aD}(h:¬(bE rd root).2.2=0):aX rd root=([],[],[],[],(bE rd root).2.2):=by unfold aX;rw[if_pos h]
def xz{rd:Rd}{root:aD}(h:(bE rd root).2.2=0)(h1:(cL (cA (bE rd root).2.1,[])).2.isNil=false):aX rd root=([],[],[],[],jy (cL (cA (bE rd root).2.1,[])).2):=by
 unfold aX;rw[if_neg (not_not_intro h),if_pos h1]
def Cg{rd:Rd}{root:aD}(h:(bE rd root).2.2=0)(h1:(cL (cA (bE rd root).2.1,[])).2.isNil=true)(h2:(iC ((bE rd root).2.1,(cL (cA (bE rd root).2.1,[])).1)).2.isNil=false) :
  aX rd root=([],[],[],[],jy (iC ((bE rd root).2.1,(cL (cA (bE rd root).2.1,[])).1)).2):=by
 unfold aX;rw[if_neg (not_not_intro h),if_neg (by rw[h1];decide),if_pos h2]
def zK{rd:Rd}{root:aD}(h:(bE rd root).2.2=0)(h1:(cL (cA (bE rd root).2.1,[])).2.isNil=true)(h2:(iC ((bE rd root).2.1,(cL (cA (bE rd root).2.1,[])).1)).2.isNil=true) :
  aX rd root=((bE rd root).1,(bE rd root).2.1,(cL (cA (bE rd root).2.1,[])).1,(iC ((bE rd root).2.1,(cL (cA (bE rd root).2.1,[])).1)).1,0):=by
 unfold aX;rw[if_neg (not_not_intro h),if_neg (by rw[h1];decide),if_neg (by rw[h2];decide)]
structure kg (rd:Rd) (root:aD) (ns:List aD) (os:List (D aA)) (bs:List Int) (ps:List Pt):Prop where
 e:bE rd root=(ns,os,0)
 sc:Scope rd root ns os
 eb:cL (cA os,[])=(bs,.nil)
 ea:iC (os,bs)=(ps,.nil)
 bl:bs.length=os.length
 bi:pL bs
 pt:ps=qX os bs os 0
 one:∀k,k<os.length->∀t∈(nth aA os k).2.2.2.1,(gT os bs (k:Int) t).2.isNil=true
 Xe:∀i,i<ps.length->tW (cY os) (nth aS ps i)
def EJ{e:aM}(h:e.isNil=true):e=.nil:=by cases e <;> first|rfl|cases h
def Scope.obj{rd:Rd}{root:aD}{ns:List aD}{os:List (D aA)}(ok:iJ rd)(h:Scope rd root ns os){i:Nat}(hi:i<os.length):kZ (nth aA os i):=by
 have:=h.xw i (by rw[<-h.len];exact hi);rw[this.2];exact AP ok this.1
def kZ.SP{o:D aA}(h:kZ o):Un o:=by
 refine⟨by have:=h.t6;omega,fun i hi =>?_,fun i hi =>?_⟩
 ·have:=(h.sym hi).2;unfold ij at this;unfold Small;omega
 ·have:=h.tie hi
  have a:=this.a;have w:=this.w;unfold ij at a w;unfold Small Word;omega
def Scope.SP{rd:Rd}{root:aD}{ns:List aD}{os:List (D aA)}(ok:iJ rd)(h:Scope rd root ns os):jN os:=⟨by have:=h.le;have:=h.len;omega,fun _ hi=>(h.obj ok hi).SP⟩
def PL{a n:Int}(h:a<=n-1):a<n:=by omega
def J1{o:D aA}(h:cX o=0):ie o.2.1.length [] o.2.2.1=0/\kP o.2.1.length none o.2.2.2.1=0:=by
 unfold cX at h;split at h
 ·cases h
 ·split at h
  ·rename_i h1;exact absurd h h1
  ·split at h
   ·rename_i h2;exact absurd h h2
   ·split at h
    ·rename_i h3;exact absurd h h3
    ·rename_i h3;exact⟨aq h3,h⟩
def M0{o:D aA}(h:cX o=0){t:D bB}(ht:t∈o.2.2.2.1):0<=t.1/\t.1<(o.2.1.length:Int):=by
 obtain⟨p,hp⟩:=vb _ _ _ (J1 h).2 t ht;obtain⟨⟨a,b⟩,_⟩:=EB hp;exact⟨a,PL b⟩
def Scope.fault{rd:Rd}{root:aD}{ns:List aD}{os:List (D aA)}(ok:iJ rd)(h:Scope rd root ns os){i:Nat}(hi:i<os.length):cX (nth aA os i)=0:=by
 have:=h.xw i (by rw[<-h.len];exact hi);rw[this.2];exact vf (kf ok this.1).2
def r8{rd:Rd}(ok:iJ rd)(root:aD):(∃f,0<f/\aX rd root=([],[],[],[],f))\/(∃ns os bs ps,aX rd root=(ns,os,bs,ps,0)/\kg rd root ns os bs ps):=by
 rcases zH ok root with⟨f,hf,e⟩|⟨ns,os,e,sc⟩
 ·exact .inl ⟨f,hf,by rw[xy (by rw[e];simp only;omega),e]⟩
 ·have e0:(bE rd root).2.2=0:=by rw[e]
  have e1:(bE rd root).2.1=os:=by rw[e]
  have e2:(bE rd root).1=ns:=by rw[e]
  cases hb:(cL (cA os,[])).2.isNil with
  |false=>exact .inl ⟨_,HF (Cf _) hb,by rw[xz e0 (by rw[e1];exact hb),e1]⟩
  |true=>
   cases ha:(iC (os,(cL (cA os,[])).1)).2.isNil with
   |false=>exact .inl ⟨_,HF (He _) ha,by rw[Cg e0 (by rw[e1];exact hb) (by rw[e1];exact ha),e1]⟩
   |true=>
    obtain⟨a1,a2,a3,a4⟩:=SN ha;refine .inr ⟨ns,os,_,_,by rw[zK e0 (by rw[e1];exact hb) (by rw[e1];exact ha),e1,e2],e,sc,Prod.ext rfl (EJ hb),Prod.ext rfl (EJ ha),a1,a2,a3,a4,fun i hi =>?_⟩;obtain⟨k,t,hk,ht,hp⟩:=AS (by rw[<-a3];exact dV (t:=aS) hi);rw[hp];have:=M0 (sc.fault ok hk) ht;refine⟨by simp only;omega,by simp only;rw[nM];omega,this.1,?_⟩;simp only[dh];rw[show((k:Int)).toNat=k from rfl,vj hk];exact this.2
def je(ns:List aD)(bs:List Int)(w:Ws)(n:Nat):List (D dF):=(ba n).map fun i=>(nth .str ns i,nth (.int .i64) bs i,nth ji w i,())
def M1(ns:List aD)(bs:List Int)(w:Ws)(n:Nat):(je ns bs w n).length=n:=by simp[je]
def zL(ns:List aD)(bs:List Int)(w:Ws)(n:Nat):je ns bs w (n+1)=je ns bs w n++[(nth .str ns n,nth (.int .i64) bs n,nth ji w n,())]:=by simp[je,cq]
def jM(ns:List aD)(bs:List Int)(os:List (D aA))(ps:List Pt):List (D dF)×aM:=
 if ¬ns.length=os.length\/¬bs.length=os.length then([],.no 3)
 else if(iX (cY os,ps)).2.isNil=false then([],(iX (cY os,ps)).2)
 else(je ns bs (iX (cY os,ps)).1 os.length,.nil)
def Ch{ns:List aD}{bs:List Int}{os:List (D aA)}{ps:List Pt}(h:¬ns.length=os.length\/¬bs.length=os.length):jM ns bs os ps=([],.no 3):=by unfold jM;rw[if_pos h]
def SQ{ns:List aD}{bs:List Int}{os:List (D aA)}{ps:List Pt}(h:ns.length=os.length)(h':bs.length=os.length)(hp:(iX (cY os,ps)).2.isNil=false):jM ns bs os ps=([],(iX (cY os,ps)).2):=by
 unfold jM;rw[if_neg (by rintro(e|e);exact e h;exact e h'),if_pos hp]
def Dm{ns:List aD}{bs:List Int}{os:List (D aA)}{ps:List Pt}(h:ns.length=os.length)(h':bs.length=os.length)(hp:(iX (cY os,ps)).2.isNil=true):jM ns bs os ps=(je ns bs (iX (cY os,ps)).1 os.length,.nil):=by
 unfold jM;rw[if_neg (by rintro(e|e);exact e h;exact e h'),if_neg (by rw[hp];decide)]
def HG(ns:List aD)(bs:List Int)(os:List (D aA))(ps:List Pt):Told (jM ns bs os ps).2:=by
 unfold jM;split
 ·rfl
 ·split
  ·exact SO _
  ·rfl
def gH(rd:Rd)(root:aD):List (D dF)×Int:=
 if ¬(aX rd root).2.2.2.2=0 then([],(aX rd root).2.2.2.2)
 else((jM (aX rd root).1 (aX rd root).2.2.1 (aX rd root).2.1 (aX rd root).2.2.2.1).1,jy (jM (aX rd root).1 (aX rd root).2.2.1 (aX rd root).2.1 (aX rd root).2.2.2.1).2)
def kg.put{rd:Rd}{root:aD}{ns:List aD}{os:List (D aA)}{bs:List Int}{ps:List Pt}(h:kg rd root ns os bs ps):iX (cY os,ps)=(ly (cY os) ps,.nil):=yq h.Xe
def kg.lay{rd:Rd}{root:aD}{ns:List aD}{os:List (D aA)}{bs:List Int}{ps:List Pt}(h:kg rd root ns os bs ps):jM ns bs os ps=(je ns bs (ly (cY os) ps) os.length,.nil):=by
 rw[Dm h.sc.len.symm h.bl (by rw[h.put];rfl),h.put]
def SR{rd:Rd}{root:aD}(h:¬(aX rd root).2.2.2.2=0):gH rd root=([],(aX rd root).2.2.2.2):=by unfold gH;rw[if_pos h]
def U6{rd:Rd}{root:aD}{ns:List aD}{os:List (D aA)}{bs:List Int}{ps:List Pt}(e:aX rd root=(ns,os,bs,ps,0))(h:kg rd root ns os bs ps):gH rd root=(je ns bs (ly (cY os) ps) os.length,0):=by
 unfold gH;rw[e,if_neg (by simp),h.lay];rfl
def kg.sum{rd:Rd}{root:aD}{ns:List aD}{os:List (D aA)}{bs:List Int}{ps:List Pt}(h:kg rd root ns os bs ps) :
  (∀j,j<os.length->1<=(nth aA os j).2.1.length/\(nth aA os j).2.1.length<=40)/\jb (cA os) os.length<=256/\∀i,i<os.length->(nth (.int .i64) bs i:Int)=jb (cA os) i:=by
 have hb:(cL (cA os,[])).2.isNil=true:=by rw[h.eb];rfl
 have hn:(cL (cA os,[])).1=bs:=by rw[h.eb]
 obtain⟨_,h2,h3,h4⟩:=PK hb;rw[hn]at h4;have hl:=pH os;refine⟨fun j hj =>?_,by rw[hl]at h3;exact h3,fun i hi=>h4 i (by omega)⟩;have:=h2 j (by omega);rw[Ce hj]at this;exact⟨dc.1 this.1,dc.1 this.2⟩
def Xr(p:D dF)(a:Int):Prop:=(p.2.1:Int)<=a/\a<(p.2.1:Int)+(p.2.2.1.length:Int)
instance(p:D dF)(a:Int):Decidable (Xr p a):=inferInstanceAs (Decidable (_/\_))
def PM{rd:Rd}(ok:iJ rd){root:aD}(h:(bE rd root).2.2=0):(bE rd root).2.1.length<=6:=by
 have:=(AQ ok h).le;have:=(AQ ok h).len;omega
def M3{rd:Rd}(ok:iJ rd){root:aD}(h:(bE rd root).2.2=0):jN (bE rd root).2.1:=(AQ ok h).SP ok
def U7{l:List (D aA)}(h:l.length<=1000/\∀i,i<l.length->(nth aA l i).2.1.length<=1000) :
  (cY l).length<=100000/\∀i,i<(cY l).length->(nth ji (cY l) i).length<=100000000:=by
 refine⟨by rw[nM];omega,fun i hi =>?_⟩;rw[nM]at hi;rw[vj hi];have:=h.2 i hi;omega
def M4{rd:Rd}(ok:iJ rd){root:aD}{ns:List aD}{os:List (D aA)}(h:Scope rd root ns os):os.length<=1000/\∀i,i<os.length->(nth aA os i).2.1.length<=1000:=by
 refine⟨by have:=h.le;have:=h.len;omega,fun i hi =>?_⟩;exact b5 (h.obj ok hi).Up (by decide)
def HH{rd:Rd}(ok:iJ rd){root:aD}(h:(aX rd root).2.2.2.2=0) :
  (aX rd root).2.1.length<=1000/\∀i,i<(aX rd root).2.1.length->(nth aA (aX rd root).2.1 i).2.1.length<=1000:=by
 rcases r8 ok root with⟨f,hf,e⟩|⟨ns,os,bs,ps,e,hr⟩
 ·rw[e]at h;simp at h;omega
 ·rw[e];exact M4 ok hr.sc
def SS{rd:Rd}{root:aD}(h:(aX rd root).2.2.2.2=0) :
  ((jM (aX rd root).1 (aX rd root).2.2.1 (aX rd root).2.1 (aX rd root).2.2.2.1).1,(jM (aX rd root).1 (aX rd root).2.2.1 (aX rd root).2.1 (aX rd root).2.2.2.1).2,())=
   ((gH rd root).1,aI (gH rd root).2,()):=by
 unfold gH;rw[if_neg (not_not_intro h)];simp only[ri (HG _ _ _ _)]
def dZ{f:Int}(h:(aI f).isNil=false):¬f=0:=fun e=>by rw[aQ.2 e]at h;cases h
def SU(x:List (D aA)×List Int):aI (jy (iC x).2)=(iC x).2:=ri (He x)
def HI{α:Type}{l:List α}{i:Nat}(h:¬i<l.length):l.take i=l:=cg (by omega)
abbrev Uq:=Unit×List (List UInt8)×List Int×List (D aR)×List (D bB)×(Bool×Unit)×Unit
def SW(x:Uq):D aA:=(x.2.1,x.2.2.1,x.2.2.2.1,x.2.2.2.2.1,())
def PN(p:D aA×Bool):Uq:=((),p.1.1,p.1.2.1,p.1.2.2.1,p.1.2.2.2.1,(p.2,()),())
def HJ(s p:aD):(ax s p).length<=s.length:=by unfold ax;split <;> simp
def Le{s:aD}{w:List aD}(hw:w=parts 32 (ax s dU))(i:Nat):(nth .str w i).length<=s.length:=by
 by_cases h:i<w.length
 ·have h1:=dV (t:=.str) h
  rw[hw]at h1;have:=oN _ _ _ h1;rw[<-hw]at this;exact b5 this (HJ _ _)
 ·unfold nth;rw[List.getD_eq_getElem?_getD,List.getElem?_eq_none (by omega)];exact ar _
def SX{s:aD}{w:List aD}(hw:w=parts 32 (ax s dU)):0<w.length:=by rw[hw];exact List.length_pos_iff.2 (AH _ _)
def lZ{c:Bool}{P:Prop}(q:c=true↔P)(h:c=false):¬P:=fun p=>by rw[q.2 p]at h;cases h
section
variable{o:D aA}{b:Bool}{s:aD}{w:List aD}(hw:w=parts 32 (ax s dU))
include hw
def M5(h:nth .str w 0=kr/\w.length=2):gG o b s=(p4 o (nth .str w 1),b):=by
 unfold gG;simp only;rw[<-hw,if_pos h]
def M6(h0:¬(nth .str w 0=kr/\w.length=2))(h:nth .str w 0=jV/\w.length=2):gG o b s=(p5 o (dX (nth .str w 1)).1,b || (cP (nth .str w 1)).isNone):=by
 unfold gG;simp only;rw[<-hw,if_neg h0,if_pos h]
def PO(h0:¬(nth .str w 0=kr/\w.length=2))(h1:¬(nth .str w 0=jV/\w.length=2))(h:nth .str w 0=jj/\w.length=3) :
  gG o b s=(ub o (nth .str w 1,(dX (nth .str w 2)).1,av s dU,()),b || (cP (nth .str w 2)).isNone):=by
 unfold gG;simp only;rw[<-hw,if_neg h0,if_neg h1,if_pos h]
def M7(h0:¬(nth .str w 0=kr/\w.length=2))(h1:¬(nth .str w 0=jV/\w.length=2))(h2:¬(nth .str w 0=jj/\w.length=3))(h:nth .str w 0=mI/\w.length=3) :
  gG o b s=(pD o ((dX (nth .str w 1)).1,1,(dX (nth .str w 2)).1,[],false,()),(b || (cP (nth .str w 1)).isNone) || (cP (nth .str w 2)).isNone):=by
 unfold gG;simp only;rw[<-hw,if_neg h0,if_neg h1,if_neg h2,if_pos h]
def EK(h0:¬(nth .str w 0=kr/\w.length=2))(h1:¬(nth .str w 0=jV/\w.length=2))(h2:¬(nth .str w 0=jj/\w.length=3))(h3:¬(nth .str w 0=mI/\w.length=3))
  (h:(nth .str w 0=lD\/nth .str w 0=lh)/\w.length=4){k:Int}(hk:k=if nth .str w 0=lh then 3 else 2) :
  gG o b s=(pD o ((dX (nth .str w 1)).1,k,(dX (nth .str w 2)).1,nth .str w 3,av s dU,()),(b || (cP (nth .str w 1)).isNone) || (cP (nth .str w 2)).isNone):=by
 unfold gG;simp only;rw[<-hw,if_neg h0,if_neg h1,if_neg h2,if_neg h3,if_pos h,hk]
def M8(h0:¬(nth .str w 0=kr/\w.length=2))(h1:¬(nth .str w 0=jV/\w.length=2))(h2:¬(nth .str w 0=jj/\w.length=3))(h3:¬(nth .str w 0=mI/\w.length=3))
  (h:¬((nth .str w 0=lD\/nth .str w 0=lh)/\w.length=4)):gG o b s=(o,true):=by
 unfold gG;simp only;rw[<-hw,if_neg h0,if_neg h1,if_neg h2,if_neg h3,if_neg h]
end
def om(s:aD):D aA×aM:=((cR s).1,aI (cR s).2)
def M9{s:aD}(h:s.length > 1200):(bY aA,aM.no 2)=om s:=by unfold om;rw[EH h];rfl
def lE.run{L:List aD}{i:Nat}{o:D aA}{b:Bool}(h:lE L i o b)(hi:¬i<L.length):(run pE (bY aA) L=some o/\b=false)\/(run pE (bY aA) L=none/\b=true):=by
 have:=h.st
 rwa [cg (by omega)]at this
def xA{s:aD}{i:Nat}{o:D aA}{b:Bool}(h:lE (parts 10 (ae s [10])) i o b)(hi:¬i<(parts 10 (ae s [10])).length)(hl:¬s.length > 1200)
  (hb:b=true\/(kq o).2.isNil=false\/¬(kq o).1=s):(bY aA,aM.no 4)=om s:=by
 have:cR s=(bY aA,4):=by
  rcases h.run hi with⟨hr,h0⟩|⟨hr,h0⟩
  ·rcases hb with hb|hb|hb
   ·rw[hb]at h0;cases h0
   ·refine Ca hl hr fun hf ht =>?_
    rw[ve hf rfl (by show(iI o).length<=1200;rw[ht];omega)]at hb;cases hb
   ·refine Ca hl hr fun hf ht=>hb ?_
    rw[ve hf rfl (by show(iI o).length<=1200;rw[ht];omega)];exact ht
  ·exact MW hl hr
 unfold om;rw[this];rfl
def SY{s:aD}{o:D aA}(hl:¬s.length > 1200)
  (hn:(kq o).2.isNil=true)(ht:(kq o).1=s):(o,aM.nil)=om s:=by
 have hf:cX o=0:=by
  apply aq;intro hf;rw[EE hf]at hn;exact hf (aQ.1 hn)
 have hs:iI o=s:=by
  by_cases h:(iI o).length > 1200
  ·rw[B8 hf rfl h]at hn;cases hn
  ·rw[ve hf rfl (by show(iI o).length<=1200;omega)]at ht;exact ht
 unfold om;rw[Dj hl hf hs];rfl
def yx(s p:aD):(ae s p).length<=s.length:=by unfold ae;split <;> simp
def PQ(s:aD)(h:s.length<=1200):(parts 10 (ae s [10])).length<=1201:=by
 have h1:=sM 10 (ae s [10]);have h2:(ae s [10]).length<=s.length:=by unfold ae;split <;> simp
 omega
def Na{s:aD}(h:s.length<=1200)(i:Nat):(nth .str (parts 10 (ae s [10])) i).length<=1200:=by
 by_cases hi:i<(parts 10 (ae s [10])).length
 ·have:=oN _ _ _ (dV (t:=.str) hi)
  have h2:(ae s [10]).length<=s.length:=by unfold ae;split <;> simp
  omega
 ·unfold nth;rw[List.getD_eq_getElem?_getD,List.getElem?_eq_none (by omega)];exact ar _
section
variable{o:D aA}{b:Bool}{w:List aD}{k:Nat}
end
def eT{k n:Nat}(h:(k:Int)<(n:Int)):(decide ((k:Int)<3))=true↔((k:Int)<(n:Int)/\(k:Int)<3):=by
 rw[decide_eq_true_eq];omega
def cD(rd:Rd)(ns:List aD)(bs:List Int)(n:Nat):List (D aG):=(ba n).map fun i=>(nth .str ns i,(rd (nth .str ns i)).2.1,nth (.int .i64) bs i,())
def eW(rd:Rd)(ns:List aD)(bs:List Int)(n:Nat):(cD rd ns bs n).length=n:=by simp[cD]
def xB(rd:Rd)(ns:List aD)(bs:List Int)(n:Nat):cD rd ns bs (n+1)=cD rd ns bs n++[(nth .str ns n,(rd (nth .str ns n)).2.1,nth (.int .i64) bs n,())]:=by simp[cD,cq]
def ju{rd:Rd}{ns:List aD}{bs:List Int}{n i:Nat}(h:i<n):nth aG (cD rd ns bs n) i=(nth .str ns i,(rd (nth .str ns i)).2.1,nth (.int .i64) bs i,()):=by
 apply jc;simp[cD,h]
def dQ(rd:Rd)(root:aD):D aC×Int:=
 if ¬(aX rd root).2.2.2.2=0 then(bY aC,(aX rd root).2.2.2.2)
 else((root,cD rd (aX rd root).1 (aX rd root).2.2.1 (aX rd root).1.length,(aX rd root).2.2.2.1,()),0)
def HK{rd:Rd}{root:aD}(h:¬(aX rd root).2.2.2.2=0):dQ rd root=(bY aC,(aX rd root).2.2.2.2):=by unfold dQ;rw[if_pos h]
def yy{rd:Rd}{root:aD}(h:(aX rd root).2.2.2.2=0):dQ rd root=((root,cD rd (aX rd root).1 (aX rd root).2.2.1 (aX rd root).1.length,(aX rd root).2.2.2.1,()),0):=by
 unfold dQ;rw[if_neg (not_not_intro h)]
def Nb{rd:Rd}(ok:iJ rd)(root:aD):(∃f,0<f/\aX rd root=([],[],[],[],f)/\dQ rd root=(bY aC,f))\/
  (∃ns os bs ps,aX rd root=(ns,os,bs,ps,0)/\kg rd root ns os bs ps/\dQ rd root=((root,cD rd ns bs ns.length,ps,()),0)):=by
 rcases r8 ok root with⟨f,hf,e⟩|⟨ns,os,bs,ps,e,h⟩
 ·exact .inl ⟨f,hf,e,by rw[HK (by rw[e];simp only;omega),e]⟩
 ·exact .inr ⟨ns,os,bs,ps,e,h,by rw[yy (by rw[e]),e]⟩
def jf(rd:Rd)(p:D aG):Bool:=decide ((rd p.1).2.2=0)&&decide ((rd p.1).2.1=p.2.1)
def fM(rd:Rd)(e:D aC):Bool:=e.2.1.all (jf rd)&&decide (0<e.2.1.length)
def HM{rd:Rd}{e:D aC}{i:Nat}(h:i<e.2.1.length)(hf:jf rd (nth aG e.2.1 i)=false):fM rd e=false:=by
 unfold fM;have:e.2.1.all (jf rd)=false:=c6.2 ⟨_,dV (t:=aG) h,by rw[hf];decide⟩;rw[this];rfl
def EL{rd:Rd}{e:D aC}(h:∀i,i<e.2.1.length->jf rd (nth aG e.2.1 i)=true):fM rd e=decide (0<e.2.1.length):=by
 unfold fM;have:e.2.1.all (jf rd)=true:=ca.2 fun x hx=>by
  obtain⟨i,hi,rfl⟩:=gR (t:=aG) hx;exact h i hi
 rw[this];rfl
def EM{rd:Rd}{e:D aC}(h:fM rd e=true):0<e.2.1.length/\∀i,i<e.2.1.length->(rd (nth aG e.2.1 i).1).2.2=0/\(rd (nth aG e.2.1 i).1).2.1=(nth aG e.2.1 i).2.1:=by
 unfold fM at h;rw[af,ca,decide_eq_true_eq]at h;refine⟨h.2,fun i hi =>?_⟩;have:=h.1 _ (dV (t:=aG) hi);unfold jf at this;rw[af,decide_eq_true_eq,decide_eq_true_eq]at this;exact this
def mK(rd:Rd):List (D aG)->Int
 |[]=>0
 |p :: r=>if(cR (rd p.1).1).2=0 then mK rd r else(cR (rd p.1).1).2
def fR(rd:Rd)(l:List (D aG)):List (D aA):=l.map fun p=>(cR (rd p.1).1).1
def fV(l:List (D aG)):List aD:=l.map fun p=>p.1
def fW(l:List (D aG)):List Int:=l.map fun p=>p.2.2.1
def HN{rd:Rd}:∀{l:List (D aG)} {i:Nat},(∀j,j<i->(cR (rd (nth aG l j).1).1).2=0)->i<l.length->¬(cR (rd (nth aG l i).1).1).2=0->mK rd l=(cR (rd (nth aG l i).1).1).2
 |[],i,_,h,_=>by simp at h
 |p :: r,0,_,_,h=>by unfold mK;rw[if_neg (show ¬(cR (rd p.1).1).2=0 from h)];rfl
 |p :: r,i+1,h,h1,h2=>by
  unfold mK;rw[if_pos (show(cR (rd p.1).1).2=0 from h 0 (by omega))];exact HN (l:=r) (i:=i) (fun j hj=>h (j+1) (by omega)) (by simpa using h1) h2
def vk{rd:Rd}:∀{l:List (D aG)},(∀j,j<l.length->(cR (rd (nth aG l j).1).1).2=0)->mK rd l=0
 |[],_=>rfl
 |p :: r,h=>by
  unfold mK;rw[if_pos (show(cR (rd p.1).1).2=0 from h 0 (by simp))];exact vk (l:=r) fun j hj=>h (j+1) (by simpa using hj)
def HO(rd:Rd):∀l:List (D aG),0<=mK rd l
 |[]=>az _
 |p :: r=>by
  unfold mK;split
  ·exact HO rd r
  ·exact zG _
def kz(rd:Rd)(e:D aC):List (D dF)×Int:=
 if fM rd e=false then([],10)
 else if ¬mK rd e.2.1=0 then([],mK rd e.2.1)
 else((jM (fV e.2.1) (fW e.2.1) (fR rd e.2.1) e.2.2.1).1,jy (jM (fV e.2.1) (fW e.2.1) (fR rd e.2.1) e.2.2.1).2)
def PR{rd:Rd}{e:D aC}(h:fM rd e=false):kz rd e=([],10):=by unfold kz;rw[if_pos h]
def U8{rd:Rd}{e:D aC}(h:fM rd e=true){f:Int}(hb:mK rd e.2.1=f)(h0:¬f=0):kz rd e=([],f):=by
 unfold kz;rw[if_neg (by rw[h];decide),if_pos (by rw[hb];exact h0),hb]
def PS{rd:Rd}{e:D aC}(h:fM rd e=true)(hb:mK rd e.2.1=0) :
  kz rd e=((jM (fV e.2.1) (fW e.2.1) (fR rd e.2.1) e.2.2.1).1,jy (jM (fV e.2.1) (fW e.2.1) (fR rd e.2.1) e.2.2.1).2):=by
 unfold kz;rw[if_neg (by rw[h];decide),if_neg (not_not_intro hb)]
def ki{t:Ty}{a b:List (D t)}(hl:a.length=b.length)(h:∀i,i<a.length->nth t a i=nth t b i):a=b:=y9 (t:=t) hl h
def HP{rd:Rd}{ns:List aD}{bs:List Int}:fV (cD rd ns bs ns.length)=ns:=by
 refine ki (t:=.str) (by simp[fV,cD]) fun i hi =>?_
 have hi':i<ns.length:=by simpa[fV,cD]using hi
 unfold fV;rw[rA (u:=aG) (t:=.str) (by rw[eW];exact hi'),ju hi']
def HQ{rd:Rd}{ns:List aD}{bs:List Int}(h:bs.length=ns.length):fW (cD rd ns bs ns.length)=bs:=by
 refine ki (t:=.int .i64) (by simp[fW,cD,h]) fun i hi =>?_
 have hi':i<ns.length:=by simpa[fW,cD]using hi
 unfold fW;rw[rA (u:=aG) (t:=.int .i64) (by rw[eW];exact hi'),ju hi']
def kg.fresh{rd:Rd}(ok:iJ rd){root:aD}{ns:List aD}{os:List (D aA)}{bs:List Int}{ps:List Pt}(h:kg rd root ns os bs ps):fM rd (root,cD rd ns bs ns.length,ps,())=true:=by
 rw[EL]
 ·exact decide_eq_true (by show 0<(cD rd ns bs ns.length).length;rw[eW];exact h.sc.pos)
 ·intro i hi
  have hi:i<ns.length:=by have:i<(cD rd ns bs ns.length).length:=hi;rwa [eW]at this
  show jf rd (nth aG (cD rd ns bs ns.length) i)=true;rw[ju hi];unfold jf;rw[decide_eq_true (kf ok (h.sc.xw i hi).1).1,decide_eq_true rfl];rfl
def kg.aF{rd:Rd}{root:aD}{ns:List aD}{os:List (D aA)}{bs:List Int}{ps:List Pt}(h:kg rd root ns os bs ps){rd':Rd}(hs:∀s∈ns,(rd' s).1=(rd s).1):fR rd' (cD rd ns bs ns.length)=os:=by
 refine ki (t:=aA) (by simp[fR,cD,h.sc.len]) fun i hi =>?_
 have hi':i<ns.length:=by simpa[fR,cD]using hi
 unfold fR;rw[rA (u:=aG) (t:=aA) (by rw[eW];exact hi'),ju hi',(h.sc.xw i hi').2];unfold jt;rw[hs _ (dV (t:=.str) hi')]
def kg.bad{rd:Rd}(ok:iJ rd){root:aD}{ns:List aD}{os:List (D aA)}{bs:List Int}{ps:List Pt}(h:kg rd root ns os bs ps){rd':Rd}(hs:∀s∈ns,(rd' s).1=(rd s).1):mK rd' (cD rd ns bs ns.length)=0:=by
 refine vk fun j hj =>?_
 rw[eW]at hj;rw[ju hj];simp only;rw[hs _ (dV (t:=.str) hj)];exact(kf ok (h.sc.xw j hj).1).2
def kg.use{rd:Rd}(ok:iJ rd){root:aD}{ns:List aD}{os:List (D aA)}{bs:List Int}{ps:List Pt}(h:kg rd root ns os bs ps){rd':Rd}(hs:∀s∈ns,(rd' s).1=(rd s).1)
  (hf:fM rd' (root,cD rd ns bs ns.length,ps,())=true):kz rd' (root,cD rd ns bs ns.length,ps,())=(je ns bs (ly (cY os) ps) os.length,0):=by
 rw[PS hf (h.bad ok hs)];simp only;rw[HP,HQ (by rw[h.bl,h.sc.len]),h.aF hs,h.lay];rfl
def eE(p:D aG):Int:=if aN p.1 > 0 then aN p.1 else if p.2.1<1\/p.2.1 > 1000000\/p.2.2.1<0\/p.2.2.1 > 255\/p.2.2.1 % 16 > 0 then 1 else 0
def mw:List (D aG)->Int
 |[]=>0
 |p :: r=>if eE p=0 then mw r else eE p
def eM(n:Nat)(p:Pt):Int:=if p.1<0\/p.1>=(n:Int)\/p.2.1<0\/p.2.1 > 39\/ic p.2.2.1=false then 1 else 0
def l5(n:Nat):List Pt->Int
 |[]=>0
 |p :: r=>if eM n p=0 then l5 n r else eM n p
def rj(e:D aC):Prop:=e.2.1.length<1\/e.2.1.length > 6\/e.2.2.1.length > 36
instance(e:D aC):Decidable (rj e):=by unfold rj;infer_instance
def bC(e:D aC):Int:=
 if aN e.1 > 0 then aN e.1 else if rj e then 2 else if ¬mw e.2.1=0 then mw e.2.1 else l5 e.2.1.length e.2.2.1
def FZ(p:D aG):0<=eE p:=by
 unfold eE;split
 ·omega
 ·split <;> decide
def F0(n:Nat)(p:Pt):0<=eM n p:=by unfold eM;split <;> decide
def ud:∀l:List (D aG),0<=mw l
 |[]=>az _
 |p :: r=>by
  unfold mw;split
  ·exact ud r
  ·exact FZ p
def sQ(n:Nat):∀l:List Pt,0<=l5 n l
 |[]=>az _
 |p :: r=>by
  unfold l5;split
  ·exact sQ n r
  ·exact F0 n p
def vR(e:D aC):0<=bC e:=by
 unfold bC;split
 ·omega
 ·split
  ·decide
  ·split
   ·exact ud _
   ·exact sQ _ _
def Ci:∀{l:List (D aG)} {i:Nat},(∀j,j<i->eE (nth aG l j)=0)->i<l.length->¬eE (nth aG l i)=0->mw l=eE (nth aG l i)
 |[],i,_,h,_=>by simp at h
 |p :: r,0,_,_,h=>by unfold mw;rw[if_neg (show ¬eE p=0 from h)];rfl
 |p :: r,i+1,h,h1,h2=>by
  unfold mw;rw[if_pos (show eE p=0 from h 0 (by omega))];exact Ci (l:=r) (i:=i) (fun j hj=>h (j+1) (by omega)) (by simpa using h1) h2
def r9:∀{l:List (D aG)},(∀j,j<l.length->eE (nth aG l j)=0)->mw l=0
 |[],_=>rfl
 |p :: r,h=>by
  unfold mw;rw[if_pos (show eE p=0 from h 0 (by simp))];exact r9 (l:=r) fun j hj=>h (j+1) (by simpa using hj)
def zM{n:Nat}:∀{l:List Pt} {i:Nat},(∀j,j<i->eM n (nth aS l j)=0)->i<l.length->¬eM n (nth aS l i)=0->l5 n l=eM n (nth aS l i)
 |[],i,_,h,_=>by simp at h
 |p :: r,0,_,_,h=>by unfold l5;rw[if_neg (show ¬eM n p=0 from h)];rfl
 |p :: r,i+1,h,h1,h2=>by
  unfold l5;rw[if_pos (show eM n p=0 from h 0 (by omega))];exact zM (l:=r) (i:=i) (fun j hj=>h (j+1) (by omega)) (by simpa using h1) h2
def vS{n:Nat}:∀{l:List Pt},(∀j,j<l.length->eM n (nth aS l j)=0)->l5 n l=0
 |[],_=>rfl
 |p :: r,h=>by
  unfold l5;rw[if_pos (show eM n p=0 from h 0 (by simp))];exact vS (l:=r) fun j hj=>h (j+1) (by simpa using hj)
def zN{e:D aC}(h:aN e.1 > 0):bC e=aN e.1:=by unfold bC;rw[if_pos h]
def qt{e:D aC}(h:aN e.1<=0)(h1:rj e):bC e=2:=by unfold bC;rw[if_neg (by omega),if_pos h1]
def jC{e:D aC}(h:aN e.1<=0)(h1:¬rj e){i:Nat}(hs:∀j,j<i->eE (nth aG e.2.1 j)=0)(hi:i<e.2.1.length){f:Int}(hf:eE (nth aG e.2.1 i)=f)(h0:f≠0):bC e=f:=by
 have:=Ci hs hi (by rw[hf];exact h0);unfold bC;rw[if_neg (by omega),if_neg h1,if_pos (by rw[this,hf];exact h0),this,hf]
def jD{e:D aC}(h:aN e.1<=0)(h1:¬rj e)(h2:∀j,j<e.2.1.length->eE (nth aG e.2.1 j)=0){i:Nat}(hs:∀j,j<i->eM e.2.1.length (nth aS e.2.2.1 j)=0)(hi:i<e.2.2.1.length)
  (hf:eM e.2.1.length (nth aS e.2.2.1 i)=1):bC e=1:=by
 unfold bC;rw[if_neg (by omega),if_neg h1,if_neg (not_not_intro (r9 h2)),zM hs hi (by rw[hf];decide),hf]
def EN{e:D aC}(h:aN e.1<=0)(h1:¬rj e)(h2:∀j,j<e.2.1.length->eE (nth aG e.2.1 j)=0)(h3:∀j,j<e.2.2.1.length->eM e.2.1.length (nth aS e.2.2.1 j)=0):bC e=0:=by
 unfold bC;rw[if_neg (by omega),if_neg h1,if_neg (not_not_intro (r9 h2)),vS h3]
section
variable{rd:Rd}{root:aD}{i:Nat}{ns:List aD}{os:List (D aA)}
def la.SZ(ok:iJ rd)(h:la rd root i ns os)(hi:i<ns.length)(he:¬(rd (nth .str ns i)).2.2=0) :
  bE rd root=([],[],(rd (nth .str ns i)).2.2):=by
 rw[h.bad hi (by rw[xu he];exact he),xu he]
def la.U9(h:la rd root i ns os)(hi:i<ns.length)(he:(rd (nth .str ns i)).2.2=0)(ho:¬(cR (rd (nth .str ns i)).1).2=0) :
  bE rd root=([],[],(cR (rd (nth .str ns i)).1).2):=by
 rw[h.bad hi (by rw[tp he];exact ho),tp he]
def Dn{s:aD}(he:(rd s).2.2=0)(ho:(cR (rd s).1).2=0):eK rd s=0:=by rw[tp he];exact ho
def la.Xl(h:la rd root i ns os):os.length+1<=1000000000:=by have:=h.len;have:=h.le;omega
def la.Wt(h:la rd root i ns os)(ok:iJ rd){s:aD}(hf:eK rd s=0)(k:Nat):(gA ns (ah k (jt rd s).1)).length+1<=1000000000:=by
 obtain⟨r,h1,h2,_⟩:=oQ (ah k (jt rd s).1) ns;have:=(AP ok hf).n4;have:=h.hi;have:=h.le;rw[h1,aw];rw[bh]at h2;omega
def Lf{l:List aD}{k:Nat}(h:k<l.length)(hn:(gA ns (l.take k)).any (fun x=>x == nth .str l k)=false):gA ns (l.take k)++[nth .str l k]=gA ns (l.take (k+1)):=by
 rw[EI h,if_neg (by rw[hn];exact Bool.false_ne_true)]
def Lg{l:List aD}{k:Nat}(h:k<l.length)(hn:(gA ns (l.take k)).any (fun x=>x == nth .str l k)=true):gA ns (l.take k)=gA ns (l.take (k+1)):=by
 rw[EI h,if_pos hn]
def Lh{l:List aD}{k:Nat}(h:¬k<l.length):gA ns (l.take k)=gA ns l:=by rw[cg (by omega)]
end
def PT{rd:Rd}{root:aD}{ns:List aD}{os:List (D aA)}{bs:List Int}{ps:List Pt}{w:Ws}(h:bE rd root=(ns,os,0))(hb:cL (cA os,[])=(bs,.nil))(ha:iC (os,bs)=(ps,.nil))
  (hn:ns.length=os.length)(hl:bs.length=os.length)(hp:∀i,i<ps.length->tW (cY os) (nth aS ps i))(hw:ly (cY os) ps=w):gH rd root=(je ns bs w os.length,0):=by
 have e:aX rd root=(ns,os,bs,ps,0):=by
  unfold aX;rw[h];simp only[hb,ha,aM.isNil];rfl
 unfold gH;rw[e,if_neg (by simp)];have hq:iX (cY os,ps)=(w,.nil):=by rw[yq hp,hw]
 simp only;rw[Dm hn hl (by rw[hq];rfl),hq];rfl
def AT:aD:=[119,111,114,100,32,53,10,98,97,115,101,32,48,32,51,10]
abbrev Wu:D aA:=([],[5],[],[(0,1,3,[],false,())],())
def WZ:cR AT=(Wu,0):=by
 have i5:ab 5=[53]:=by rw[AI (by decide) (by decide)];rfl
 have i0:ab 0=[48]:=by rw[AI (by decide) (by decide)];rfl
 have i3:ab 3=[51]:=by rw[AI (by decide) (by decide)];rfl
 refine Dj (by decide) (by decide) ?_;simp only[iI,jA,nV,nU,pC,u9,tn,iH,da,fl,fc,fk,bx,List.flatMap_nil,i5,i0,i3];decide
def PU{rd:Rd}{a t:aD}{n:Int}{o:D aA}(h:rd a=(t,n,0))(ho:cR t=(o,0))(hn:o.1=[]):bE rd a=([a],[o],0):=by
 have fa:eK rd a=0:=by unfold eK;rw[h];show(if(0:Int)=0 then(cR t).2 else 0)=0;rw[ho];rfl
 have oa:jt rd a=o:=by unfold jt;rw[h];show(cR t).1=o;rw[ho]
 have n0:nth .str [a] 0=a:=rfl;unfold bE;rw[jd,if_pos (by simp),n0,if_pos fa,oa,hn,HC,jd,if_neg (by simp)];rfl
def HR{rd rd':Rd}{root:aD}(h:bE rd' root=bE rd root):aX rd' root=aX rd root:=by unfold aX;rw[h]
def EO{s k:aD}(h:¬k=s):∀{es:List FE},cT cI (fU cI es s) k=cT cI es k/\iV cI (fU cI es s) k=iV cI es k
 |[]=>⟨rfl,rfl⟩
 |y :: es=>by
  obtain⟨h1,h2⟩:=EO h (es:=es);by_cases e:y.1=s
  ·have hk:¬y.1=k:=fun e'=>h (e'.symm.trans e)
   have hs:¬s=k:=fun e'=>h e'.symm
   have hd:fU cI (y :: es) s=es:=if_pos e;rw[hd];constructor
   ·simp[cT,hk]
   ·show iV cI es k=if y.1=k then y.2.1 else iV cI es k;rw[if_neg hk]
  ·have hd:fU cI (y :: es) s=y :: fU cI es s:=if_neg e
   rw[hd];constructor
   ·simp only[cT]at h1 ⊢;simp[h1]
   ·show(if y.1=k then y.2.1 else iV cI (fU cI es s) k)=if y.1=k then y.2.1 else iV cI es k;rw[h2]
def PV{x:dA}{s k:aD}(h:¬k=s):aL (fE x s).1 k=aL x k:=by
 cases hh:cT cI x.2.1.1 s with
 |false=>rw[mv hh]
 |true=>
  rw[lC hh];unfold aL;obtain⟨h1,h2⟩:=EO h (es:=x.2.1.1);simp only[h1,h2]
def dD.ok{x:dA}(h:dD x):iJ (aL x):=jB h.pre.1
def EP{rd:Rd}(ok:iJ rd){s:aD}(h:(aX rd s).2.2.2.2=0):kg rd s (aX rd s).1 (aX rd s).2.1 (aX rd s).2.2.1 (aX rd s).2.2.2.1:=by
 rcases r8 ok s with⟨f,hf,e⟩|⟨ns,os,bs,ps,e,hr⟩
 ·rw[e]at h;exact absurd (show f=0 from h) (by omega)
 ·rw[e];exact hr
def ER{rd:Rd}(ok:iJ rd){s:aD}(h:(aX rd s).2.2.2.2=0){i:Nat}(hi:i<(aX rd s).1.length):(rd (nth .str (aX rd s).1 i)).2.2=0:=
 (kf ok ((EP ok h).sc.xw i hi).1).1
def ES{rd:Rd}(ok:iJ rd){s:aD}(h:(aX rd s).2.2.2.2=0):(aX rd s).2.2.1.length=(aX rd s).1.length/\(aX rd s).1.length<=6:=by
 have hr:=EP ok h;exact⟨by rw[hr.bl,hr.sc.len],hr.sc.le⟩
def zO{l:List (D aG)}{i:Nat}(h:i<l.length):fV (l.take i)++[(nth aG l i).1]=fV (l.take (i+1)):=by rw[lK (t:=aG) h];simp[fV]
def zP{l:List (D aG)}{i:Nat}(h:i<l.length):fW (l.take i)++[(nth aG l i).2.2.1]=fW (l.take (i+1)):=by rw[lK (t:=aG) h];simp[fW]
def Cj{rd:Rd}{l:List (D aG)}{i:Nat}(h:i<l.length):fR rd (l.take i)++[(cR (rd (nth aG l i).1).1).1]=fR rd (l.take (i+1)):=by rw[lK (t:=aG) h];simp[fR]
def PW{rd:Rd}{l:List (D aG)}(hl:l.length<=1000)(h:∀j,j<l.length->(cR (rd (nth aG l j).1).1).2=0) :
  (fR rd l).length<=1000/\∀i,i<(fR rd l).length->(nth aA (fR rd l) i).2.1.length<=1000:=by
 have e:(fR rd l).length=l.length:=by simp[fR]
 refine⟨by omega,fun i hi =>?_⟩;have hi':i<l.length:=by omega
 rw[show nth aA (fR rd l) i=(cR (rd (nth aG l i).1).1).1 from rA (t:=aA) (u:=aG) hi'];exact b5 (nc (vf (h i hi'))).Up (by decide)
def PX{rd:Rd}{p:D aG}(h:(aI (rd p.1).2.2).isNil=false):jf rd p=false:=by
 unfold jf;rw[decide_eq_false (dZ h)];rfl
def Nc{rd:Rd}{p:D aG}(h:¬(rd p.1).2.1=p.2.1):jf rd p=false:=by
 unfold jf;rw[decide_eq_false h,fm]
def Nd{rd:Rd}{p:D aG}(h:(aI (rd p.1).2.2).isNil=true)(h2:(rd p.1).2.1=p.2.1):jf rd p=true:=by
 unfold jf;rw[decide_eq_true (aQ.1 h),decide_eq_true h2];rfl
def S3{rd:Rd}{e:D aC}(h:fM rd e=true)(hb:mK rd e.2.1=0) :
  ((jM (fV e.2.1) (fW e.2.1) (fR rd e.2.1) e.2.2.1).1,(jM (fV e.2.1) (fW e.2.1) (fR rd e.2.1) e.2.2.1).2,())=((kz rd e).1,aI (kz rd e).2,()):=by
 rw[PS h hb];simp only[ri (HG _ _ _ _)]
structure gI (x:dA):Prop where
 st:dD x
 PY:∀y∈x.2.1.1,aN y.1=0/\y.2.1.1.length<=1200/\1<=y.2.1.2.1
def gI.new:gI qq:=⟨.new,fun y hy=>by simp[qq]at hy⟩
def HS{s:aD}{v:aD×Int×Unit}{c:Int}:∀{es:List FE} {y:FE},y∈eS cI es s v c->(y.1=s/\y.2.1=v)\/y∈es
 |[],y,h=>by simp[eS]at h;subst h;exact .inl ⟨rfl,rfl⟩
 |z :: r,y,h=>by
  unfold eS at h;split at h
  ·rcases ag.1 h with rfl|h
   ·exact .inl ⟨rfl,rfl⟩
   ·exact .inr (by simp[h])
  ·rcases ag.1 h with rfl|h
   ·exact .inr (by simp)
   ·rcases HS h with h|h
    ·exact .inl h
    ·exact .inr (by simp[h])
def HT{x:dA}{s t:aD}(h:(cJ x s t).2=0):aN s=0/\t.length<=1200/\¬x.1.1=1000000:=by
 unfold cJ at h;split at h
 ·rename_i h1;exact absurd h h1
 ·rename_i h1
  split at h
  ·simp at h
  ·rename_i h2
   split at h
   ·simp at h
   ·rename_i h3
    exact⟨by simpa using h1,by omega,fun e=>h3 (.inr e)⟩
def dD.pos{x:dA}(h:dD x):0<=x.1.1:=h.pre.2.1
def gI.write{x:dA}(h:gI x)(s t:aD):gI (cJ x s t).1:=by
 refine⟨(h.st.write s t).1,?_⟩;rcases mi x s t with⟨e,_⟩|⟨e,e2⟩
 ·rw[e];exact h.PY
 ·rw[e]
  intro y hy;obtain⟨k1,k2,_⟩:=HT e2;rcases HS hy with⟨h1,h2⟩|hy
  ·rw[h1,h2];exact⟨k1,k2,by have:=h.st.pos;show(1:Int)<=x.1.1+1;omega⟩
  ·exact h.PY y hy
def gI.remove{x:dA}(h:gI x)(s:aD):gI (fE x s).1:=by
 refine⟨(h.st.remove s).1,?_⟩;cases c:cT cI x.2.1.1 s with
 |false=>rw[mv c];exact h.PY
 |true=>rw[lC c];exact fun y hy=>h.PY y (p3.subset hy)
def gI.ok{x:dA}(h:gI x):iJ (aL x):=h.st.ok
def gI.read{x:dA}(h:gI x){s:aD}(hn:(aL x s).2.2=0):aN s=0/\(aL x s).1.length<=1200/\1<=(aL x s).2.1/\(aL x s).2.1<=x.1.1:=by
 refine⟨?_,?_,?_,MJ h.st (aQ.2 hn)⟩
 all_goals
  cases c:cT cI x.2.1.1 s with
  |false=>rw[lL c]at hn;simp at hn
  |true=>
   obtain⟨r,hr⟩:=h.st.gK;obtain⟨y,hy,e⟩:=lY.1 c;have hy':=h.PY y hy
   first
    |(rw[pA c,u6 hr.names y hy e];first|exact hy'.2.1|exact hy'.2.2)
    |(rw[<-e];exact hy'.1)
def ET{rd:Rd}(ok:iJ rd){root:aD}(h:(aI (dQ rd root).2).isNil=true) :
  ∃ns os bs ps,aX rd root=(ns,os,bs,ps,0)/\kg rd root ns os bs ps/\dQ rd root=((root,cD rd ns bs ns.length,ps,()),0):=by
 rcases Nb ok root with⟨f,hf,_,e⟩|h'
 ·rw[e]at h;exact absurd (aQ.1 h) (by show ¬f=0;omega)
 ·exact h'
def PZ{rd rd':Rd}{ns:List aD}{bs:List Int}(h:∀k∈ns,rd' k=rd k):cD rd' ns bs ns.length=cD rd ns bs ns.length:=by
 refine ki (t:=aG) (by rw[eW,eW]) fun i hi =>?_
 rw[eW]at hi;rw[ju hi,ju hi,h _ (dV (t:=.str) hi)]
def Nf{rd rd':Rd}{root:aD}{ns:List aD}{os:List (D aA)}{bs:List Int}{ps:List Pt}(e:aX rd root=(ns,os,bs,ps,0))(hr:kg rd root ns os bs ps)(h:∀k∈ns,rd' k=rd k):dQ rd' root=dQ rd root:=by
 have hs:bE rd' root=bE rd root:=JZ (by rw[hr.e]) (by rw[hr.e];exact h);have e':aX rd' root=(ns,os,bs,ps,0):=by rw[HR hs,e]
 rw[yy (by rw[e']),yy (by rw[e]),e',e];simp only;rw[PZ h]
def Ng{p:D aG}(h:aN p.1 > 0):eE p=aN p.1:=by unfold eE;rw[if_pos h]
def qK{p:D aG}(h:aN p.1<=0)(h2:p.2.1<(1:Int)\/p.2.1 > (1000000:Int)\/p.2.2.1<(0:Int)\/p.2.2.1 > (255:Int)\/p.2.2.1 % (16:Int) > 0):eE p=1:=by
 unfold eE;rw[if_neg (by omega),if_pos h2]
def HU{p:D aG}(h:aN p.1<=0)(h1:(1:Int)<=p.2.1)(h2:p.2.1<=(1000000:Int))(h3:(0:Int)<=p.2.2.1)(h4:p.2.2.1<=(255:Int))(h5:p.2.2.1 % (16:Int)=0):eE p=0:=by
 unfold eE;rw[if_neg (by omega),if_neg];rintro(e|e|e|e|e)
 ·exact absurd e (ao.2 h1)
 ·exact absurd e (ao.2 h2)
 ·exact absurd e (ao.2 h3)
 ·exact absurd e (ao.2 h4)
 ·exact absurd (show(0:Int)<0 from h5▸e) (by decide)
def HV{b x:Int}(h:0<=b)(e:x=Int.tmod b 16):x=b % 16:=by rw[e,ez h]
def o1{n:Nat}{p:Pt}(h:p.1<(0:Int)\/p.1>=(n:Int)\/p.2.1<(0:Int)\/p.2.1 > (39:Int)\/p.2.2.1<(-2147483648:Int)\/p.2.2.1 > (2147483647:Int)):eM n p=1:=by
 unfold eM;rw[if_pos];rcases h with h|h|h|h|h|h
 ·exact .inl h
 ·exact .inr (.inl h)
 ·exact .inr (.inr (.inl h))
 ·exact .inr (.inr (.inr (.inl h)))
 ·refine .inr (.inr (.inr (.inr ?_)));unfold ic;rw[decide_eq_false (cp.2 h)];rfl
 ·refine .inr (.inr (.inr (.inr ?_)));unfold ic;rw[decide_eq_false (cp.2 h),fm]
def Ck{n:Nat}{p:Pt}(h1:(0:Int)<=p.1)(h2:p.1<(n:Int))(h3:(0:Int)<=p.2.1)(h4:p.2.1<=(39:Int))(h5:(-2147483648:Int)<=p.2.2.1)(h6:p.2.2.1<=(2147483647:Int)):eM n p=0:=by
 unfold eM;rw[if_neg];rintro(e|e|e|e|e)
 ·exact absurd e (ao.2 h1)
 ·exact absurd h2 (ao.2 e)
 ·exact absurd e (ao.2 h3)
 ·exact absurd e (ao.2 h4)
 ·unfold ic at e;rw[decide_eq_true h5,decide_eq_true h6]at e;cases e
def iK{e:D aC}(h1:(1:Int)<=(e.2.1.length:Int))(h2:(e.2.1.length:Int)<=6)(h3:(e.2.2.1.length:Int)<=36):¬rj e:=by
 rintro(k|k|k)
 ·have k:e.2.1.length<1:=k;omega
 ·have k:e.2.1.length > 6:=k;omega
 ·have k:e.2.2.1.length > 36:=k;omega
def ni(p:D aG):aD:=[32]++p.1++[32]++ab p.2.1++[32]++ab p.2.2.1
def nj(p:D aS):aD:=[32]++ab p.1++[32]++ab p.2.1++[32]++ab p.2.2.1
def vm(e:D aC):aD:=e.1++[32]++ab (e.2.1.length:Int)++[32]++ab (e.2.2.1.length:Int)
def jJ(e:D aC)(i:Nat):aD:=vm e++(e.2.1.take i).flatMap ni
def jv(e:D aC)(i:Nat):aD:=jJ e e.2.1.length++(e.2.2.1.take i).flatMap nj
def rk(e:D aC):aD:=jv e e.2.2.1.length
def fS(e:D aC):aD:=rk e++[10]
def dI(e:D aC):aD×aM:=if bC e≠0 then([],aI (bC e))else(fS e,.nil)
def Nh(e:D aC):jJ e 0=vm e:=by unfold jJ;simp
def Ni(e:D aC):jv e 0=jJ e e.2.1.length:=by unfold jv;simp
def Nj{e:D aC}{i:Nat}(h:i<e.2.1.length):jJ e (i+1)=jJ e i++ni (nth aG e.2.1 i):=by
 unfold jJ;rw[iG (t:=aG) h];simp
def Nk{e:D aC}{i:Nat}(h:i<e.2.2.1.length):jv e (i+1)=jv e i++nj (nth aS e.2.2.1 i):=by
 unfold jv;rw[iG (t:=aS) h];simp
structure ld (e:D aC):Prop where
 nm:Nm e.1
 p1:1<=e.2.1.length
 p6:e.2.1.length<=6
 Cm:e.2.2.1.length<=36
 parts:∀i,i<e.2.1.length->Nm (nth aG e.2.1 i).1/\ij 1 1000000 (nth aG e.2.1 i).2.1/\ij 0 255 (nth aG e.2.1 i).2.2.1
 HW:∀i,i<e.2.2.1.length->ij 0 5 (nth aS e.2.2.1 i).1/\ij 0 39 (nth aS e.2.2.1 i).2.1/\ij (-2147483648) 2147483647 (nth aS e.2.2.1 i).2.2.1
def Cn{n:Nat}{p:Pt}(h:¬eM n p=0):eM n p=1:=by
 unfold eM at h ⊢;split
 ·rfl
 ·rename_i hh;rw[if_neg hh]at h;exact absurd rfl h
def lF{e:D aC}(h:bC e=0):ld e:=by
 have h0:aN e.1=0:=by
  apply aq;intro hn;have:=eU e.1;rw[zN (by omega)]at h;exact hn h
 have h1:¬rj e:=by
  intro hm;rw[qt (by omega) hm]at h;cases h
 have h2:∀i,(∀j,j<i->j<e.2.1.length->eE (nth aG e.2.1 j)=0)/\(i<e.2.1.length->eE (nth aG e.2.1 i)=0):=by
  intro i;induction i with
  |zero=>
   refine⟨fun j hj=>by omega,fun hi =>?_⟩;apply aq;intro hn;rw[jC (i:=0) (by omega) h1 (fun j hj=>by omega) hi rfl hn]at h;exact hn h
  |succ i ih=>
   have hs:∀j,j<i+1->j<e.2.1.length->eE (nth aG e.2.1 j)=0:=fun j hj hl=>by
    rcases bg j i with hh|hh
    ·exact ih.1 j hh hl
    ·obtain rfl:j=i:=by omega
     exact ih.2 hl
   refine⟨hs,fun hi =>?_⟩;apply aq;intro hn;rw[jC (i:=i+1) (by omega) h1 (fun j hj=>hs j hj (by omega)) hi rfl hn]at h;exact hn h
 have h2':∀i,i<e.2.1.length->eE (nth aG e.2.1 i)=0:=fun i=>(h2 i).2
 have h3:∀i,(∀j,j<i->j<e.2.2.1.length->eM e.2.1.length (nth aS e.2.2.1 j)=0)/\(i<e.2.2.1.length->eM e.2.1.length (nth aS e.2.2.1 i)=0):=by
  intro i;induction i with
  |zero=>
   refine⟨fun j hj=>by omega,fun hi =>?_⟩;apply aq;intro hn;rw[jD (i:=0) (by omega) h1 h2' (fun j hj=>by omega) hi (Cn hn)]at h;cases h
  |succ i ih=>
   have hs:∀j,j<i+1->j<e.2.2.1.length->eM e.2.1.length (nth aS e.2.2.1 j)=0:=fun j hj hl=>by
    rcases bg j i with hh|hh
    ·exact ih.1 j hh hl
    ·obtain rfl:j=i:=by omega
     exact ih.2 hl
   refine⟨hs,fun hi =>?_⟩;apply aq;intro hn;rw[jD (i:=i+1) (by omega) h1 h2' (fun j hj=>hs j hj (by omega)) hi (Cn hn)]at h;cases h
 have p1:1<=e.2.1.length:=bc.1 fun k=>h1 (.inl k)
 have p6:e.2.1.length<=6:=bc.1 fun k=>h1 (.inr (.inl k))
 refine⟨B7 h0,p1,p6,bc.1 fun k=>h1 (.inr (.inr k)),fun i hi =>?_,fun i hi =>?_⟩
 ·have k:=h2' i hi
  unfold eE at k;split at k
  ·rename_i hn;omega
  ·rename_i hn
   split at k
   ·cases k
   ·rename_i hb
    have:=eU (nth aG e.2.1 i).1;exact⟨B7 (by omega),⟨ao.1 fun k=>hb (.inl k),ao.1 fun k=>hb (.inr (.inl k))⟩,⟨ao.1 fun k=>hb (.inr (.inr (.inl k))),ao.1 fun k=>hb (.inr (.inr (.inr (.inl k))))⟩⟩
 ·have k:=(h3 i).2 hi
  unfold eM at k;split at k
  ·cases k
  ·rename_i hb
   have hw:ic (nth aS e.2.2.1 i).2.2.1=true:=by
    apply Bool.not_eq_false _ |>.mp
    intro k;exact hb (.inr (.inr (.inr (.inr k))))
   unfold ic at hw;simp only[af,decide_eq_true_eq]at hw;have hl:(nth aS e.2.2.1 i).1<(e.2.1.length:Int):=cp.1 fun k=>hb (.inr (.inl k))
   exact⟨⟨ao.1 fun k=>hb (.inl k),by omega⟩,⟨ao.1 fun k=>hb (.inr (.inr (.inl k))),ao.1 fun k=>hb (.inr (.inr (.inr (.inl k))))⟩,hw⟩
def Nl{p:D aG}(h1:Nm p.1)(h2:ij 1 1000000 p.2.1)(h3:ij 0 255 p.2.2.1):(ni p).length<=64:=by
 have a:=h1.2.1;have b:=dG h2 (by decide) (by decide);have c:=dG h3 (by decide) (by decide);simp[ni];omega
def Nn{p:D aS}(h1:ij 0 5 p.1)(h2:ij 0 39 p.2.1)(h3:ij (-2147483648) 2147483647 p.2.2.1):(nj p).length<=64:=by
 have a:=dG h1 (by decide) (by decide);have b:=dG h2 (by decide) (by decide);have c:=dG h3 (by decide) (by decide);simp[nj];omega
def ld.head{e:D aC}(h:ld e):(vm e).length<=64:=by
 have a:=h.nm.2.1;have b:=dG (n:=(e.2.1.length:Int)) (a:=0) (b:=6) ⟨by omega,by have:=h.p6;omega⟩ (by decide) (by decide);have c:=dG (n:=(e.2.2.1.length:Int)) (a:=0) (b:=36) ⟨by omega,by have:=h.Cm;omega⟩ (by decide) (by decide);simp[vm];omega
def ld.Hw{e:D aC}(h:ld e)(i:Nat):(jJ e i).length<=448:=by
 have a:=h.head;have b:=oO (f:=ni) (l:=e.2.1.take i) fun x hx=>by
  obtain⟨j,hj,rfl⟩:=gR (t:=aG) (b8 hx);obtain⟨k1,k2,k3⟩:=h.parts j hj;exact Nl k1 k2 k3
 have c:=h.p6;have d:(e.2.1.take i).length<=e.2.1.length:=by simp;omega
 unfold jJ;rw[aw];omega
def ld.AJ{e:D aC}(h:ld e)(i:Nat):(jv e i).length<=2752:=by
 have a:=h.Hw e.2.1.length;have b:=oO (f:=nj) (l:=e.2.2.1.take i) fun x hx=>by
  obtain⟨j,hj,rfl⟩:=gR (t:=aS) (b8 hx);obtain⟨k1,k2,k3⟩:=h.HW j hj;exact Nn k1 k2 k3
 have c:=h.Cm;have d:(e.2.2.1.take i).length<=e.2.2.1.length:=by simp;omega
 unfold jv;rw[aw];omega
def ld.lens{e:D aC}(h:ld e):e.1.length<=8/\(ab (e.2.1.length:Int)).length<=19/\(ab (e.2.2.1.length:Int)).length<=19:=
 ⟨h.nm.2.1,dG (a:=0) (b:=6) ⟨by omega,by have:=h.p6;omega⟩ (by decide) (by decide),dG (a:=0) (b:=36) ⟨by omega,by have:=h.Cm;omega⟩ (by decide) (by decide)⟩
def ld.W0{e:D aC}(h:ld e){i:Nat}(hi:i<e.2.1.length):(nth aG e.2.1 i).1.length<=8/\(ab (nth aG e.2.1 i).2.1).length<=19/\(ab (nth aG e.2.1 i).2.2.1).length<=19/\(jJ e i).length<=448:=by
 obtain⟨k1,k2,k3⟩:=h.parts i hi;exact⟨k1.2.1,dG k2 (by decide) (by decide),dG k3 (by decide) (by decide),h.Hw i⟩
def ld.W4{e:D aC}(h:ld e){i:Nat}(hi:i<e.2.2.1.length):(ab (nth aS e.2.2.1 i).1).length<=19/\(ab (nth aS e.2.2.1 i).2.1).length<=19/\(ab (nth aS e.2.2.1 i).2.2.1).length<=19/\(jv e i).length<=2752:=by
 obtain⟨k1,k2,k3⟩:=h.HW i hi;exact⟨dG k1 (by decide) (by decide),dG k2 (by decide) (by decide),dG k3 (by decide) (by decide),h.AJ i⟩
def No{e:D aC}{i:Nat}(h:i<e.2.1.length):jJ e i++ni (nth aG e.2.1 i)=jJ e (i+1):=(Nj h).symm
def Np{e:D aC}{i:Nat}(h:i<e.2.2.1.length):jv e i++nj (nth aS e.2.2.1 i)=jv e (i+1):=(Nk h).symm
def Nq{e:D aC}(h:bC e≠0):([],aI (bC e))=dI e:=by unfold dI;rw[if_pos h]
def P0{e:D aC}(h:bC e=0){i:Nat}(hi:i=e.2.2.1.length):(jv e i++[10],aM.nil)=dI e:=by unfold dI;rw[if_neg (not_not_intro h),hi];rfl
def vT(L:List aD):aD:=L.flatMap fun x=>32 :: x
def Dp(L M:List aD):vT (L++M)=vT L++vT M:=by simp[vT]
def HX:∀(a:aD) (L:List aD),nJ 32 (a :: L)=a++vT L
 |a,[]=>by simp[nJ,vT]
 |a,b :: r=>by rw[nJ,HX b r];simp[vT]
def ue(p:D aG):List aD:=[p.1,ab p.2.1,ab p.2.2.1]
def uf(p:D aS):List aD:=[ab p.1,ab p.2.1,ab p.2.2.1]
def kS(e:D aC):List aD:=e.1 :: ([ab (e.2.1.length:Int),ab (e.2.2.1.length:Int)]++(e.2.1.flatMap ue++e.2.2.1.flatMap uf))
def AU{α:Type}{f:α->List aD}{g:α->aD}(h:∀x,vT (f x)=g x):∀l:List α,vT (l.flatMap f)=l.flatMap g
 |[]=>rfl
 |x :: l=>by rw[bx,Dp,h,AU h l,bx]
def zQ(e:D aC):rk e=nJ 32 (kS e):=by
 unfold kS;rw[HX,Dp,Dp,AU (g:=ni) (by intro x;simp[ue,ni,vT]),AU (g:=nj) (by intro x;simp[uf,nj,vT])];unfold rk jv jJ vm;simp[vT]
def zR{e:D aC}(h:ld e):∀y∈kS e,(32:UInt8)∉y/\(10:UInt8)∉y:=by
 intro y hy;unfold kS at hy;rcases ag.1 hy with rfl|hy
 ·exact nL h.nm
 ·rcases au.1 hy with hy|hy
  ·simp at hy
   rcases hy with rfl|rfl <;> exact⟨jL _,ng _⟩
  ·rcases au.1 hy with hy|hy
   ·obtain⟨p,hp,hy⟩:=fo.1 hy
    obtain⟨j,hj,rfl⟩:=gR (t:=aG) hp;simp[ue]at hy;rcases hy with rfl|rfl|rfl
    ·exact nL (h.parts j hj).1
    ·exact⟨jL _,ng _⟩
    ·exact⟨jL _,ng _⟩
   ·obtain⟨p,hp,hy⟩:=fo.1 hy
    simp[uf]at hy;rcases hy with rfl|rfl|rfl <;> exact⟨jL _,ng _⟩
def Co{c:UInt8}(hc:c≠32):∀{L:List aD},(∀y∈L,c∉y)->c∉nJ 32 L
 |[],_=>by simp[nJ]
 |[x],h=>h x (by simp)
 |x :: y :: r,h=>by
  rw[nJ];intro hm;rcases au.1 hm with hm|hm
  ·exact h x (by simp) hm
  ·rcases ag.1 hm with e|hm
   ·exact hc e
   ·exact Co hc (fun z hz=>h z (by simp[hz])) hm
def Nr{e:D aC}(h:ld e):(10:UInt8)∉rk e:=by
 rw[zQ];exact Co (by decide) fun y hy=>(zR h y hy).2
def J2{e:D aC}(h:ld e):parts 32 (rk e)=kS e:=by
 rw[zQ];exact tm (by unfold kS;simp) fun y hy=>(zR h y hy).1
def tq{e:D aC}(h:ld e):parts 32 (ae (fS e) [10])=kS e:=by
 unfold fS;rw[ua,J2 h]
theorem xC{α:Type}{f:α->List aD}(hf:∀x,(f x).length=3):∀l:List α,(l.flatMap f).length=3*l.length
 |[]=>rfl
 |x :: l=>by rw[bx,aw,hf,xC hf l,cj];omega
theorem xD{α:Type}[Inhabited α]{f:α->List aD}(hf:∀x,(f x).length=3):∀(l:List α) (i k:Nat),i<l.length->k<3->nth .str (l.flatMap f) (3*i+k)=nth .str (f (l.getD i default)) k
 |[],i,k,h,_=>by simp at h
 |x :: l,0,k,_,hk=>by
  rw[bx,sP (t:=.str) (by rw[hf];omega)];simp
 |x :: l,i+1,k,h,hk=>by
  rw[bx,px,if_neg (by rw[hf];omega),hf,show 3*(i+1)+k-3=3*i+k by omega,xD hf l i k (by simpa using h) hk];simp
structure ml (w:List aD) (e:D aC):Prop where
 len:w.length=3+3*(e.2.1.length+e.2.2.1.length)
 root:nth .str w 0=e.1
 a:nth .str w 1=ab (e.2.1.length:Int)
 b:nth .str w 2=ab (e.2.2.1.length:Int)
 p0:∀i,i<e.2.1.length->nth .str w (3+3*i)=(nth aG e.2.1 i).1
 p1:∀i,i<e.2.1.length->nth .str w (4+3*i)=ab (nth aG e.2.1 i).2.1
 p2:∀i,i<e.2.1.length->nth .str w (5+3*i)=ab (nth aG e.2.1 i).2.2.1
 q0:∀i,i<e.2.2.1.length->nth .str w (3+3*(e.2.1.length+i))=ab (nth aS e.2.2.1 i).1
 q1:∀i,i<e.2.2.1.length->nth .str w (4+3*(e.2.1.length+i))=ab (nth aS e.2.2.1 i).2.1
 q2:∀i,i<e.2.2.1.length->nth .str w (5+3*(e.2.1.length+i))=ab (nth aS e.2.2.1 i).2.2.1
def zS{t:Ty}{l:List (D t)}{i:Nat}(d:D t)(h:i<l.length):nth t l i=l.getD i d:=by
 unfold nth;rw[List.getD_eq_getElem?_getD,List.getD_eq_getElem?_getD,List.getElem?_eq_getElem h];rfl
def HY(e:D aC):ml (kS e) e:=by
 have hs:∀x,(ue x).length=3:=fun _=>rfl
 have hp:∀x,(uf x).length=3:=fun _=>rfl
 have ls:=xC hs e.2.1;have lp:=xC hp e.2.2.1;have at3:∀k,nth .str (kS e) (3+k)=nth .str (e.2.1.flatMap ue++e.2.2.1.flatMap uf) k:=fun k=>by
  rw[show 3+k=k+1+1+1 by omega];rfl
 letI:Inhabited (D aG):=⟨bY aG⟩
 letI:Inhabited (D aS):=⟨bY aS⟩
 have hP:∀i k,i<e.2.1.length->k<3->nth .str (kS e) (3+(3*i+k))=nth .str (ue (nth aG e.2.1 i)) k:=fun i k hi hk=>by
  rw[at3,sP (t:=.str) (by omega),xD hs _ i k hi hk,zS default hi]
 have hQ:∀i k,i<e.2.2.1.length->k<3->nth .str (kS e) (3+(3*(e.2.1.length+i)+k))=nth .str (uf (nth aS e.2.2.1 i)) k:=fun i k hi hk=>by
  rw[at3,px,if_neg (by omega),ls,show 3*(e.2.1.length+i)+k-3*e.2.1.length=3*i+k by omega,xD hp _ i k hi hk,zS default hi]
 refine⟨?_,rfl,rfl,rfl,fun i hi =>?_,fun i hi =>?_,fun i hi =>?_,fun i hi =>?_,fun i hi =>?_,fun i hi =>?_⟩
 ·unfold kS;simp only[cj,aw,fl,ls,lp];omega
 ·exact hP i 0 hi (by omega)
 ·rw[show 4+3*i=3+(3*i+1) by omega];exact hP i 1 hi (by omega)
 ·rw[show 5+3*i=3+(3*i+2) by omega];exact hP i 2 hi (by omega)
 ·exact hQ i 0 hi (by omega)
 ·rw[show 4+3*(e.2.1.length+i)=3+(3*(e.2.1.length+i)+1) by omega];exact hQ i 1 hi (by omega)
 ·rw[show 5+3*(e.2.1.length+i)=3+(3*(e.2.1.length+i)+2) by omega];exact hQ i 2 hi (by omega)
def partAt(A:aD->Int)(w:List aD)(i:Nat):D aG:=(nth .str w (3+3*i),A (nth .str w (4+3*i)),A (nth .str w (5+3*i)),())
def ug(A:aD->Int)(w:List aD)(i:Nat):D aS:=(A (nth .str w (3+3*i)),A (nth .str w (4+3*i)),A (nth .str w (5+3*i)),())
def dW(A:aD->Int)(w:List aD)(n:Nat):List (D aG):=(ba n).map (partAt A w)
def cQ(A:aD->Int)(w:List aD)(a n:Nat):List (D aS):=(ba n).map fun i=>ug A w (a+i)
def zT(A:aD->Int)(w:List aD)(n:Nat):(dW A w n).length=n:=by simp[dW]
def vU(A:aD->Int)(w:List aD)(a n:Nat):(cQ A w a n).length=n:=by simp[cQ]
def J3{A:aD->Int}{w:List aD}{n i:Nat}(h:i<n):nth aG (dW A w n) i=partAt A w i:=by
 unfold nth dW;rw[List.getD_eq_getElem?_getD,List.getElem?_map,List.getElem?_range h];rfl
def F1{A:aD->Int}{w:List aD}{a n i:Nat}(h:i<n):nth aS (cQ A w a n) i=ug A w (a+i):=by
 unfold nth cQ;rw[List.getD_eq_getElem?_getD,List.getElem?_map,List.getElem?_range h];rfl
def HZ(A:aD->Int)(w:List aD)(n:Nat):dW A w (n+1)=dW A w n++[partAt A w n]:=by simp[dW,cq]
def Dq(A:aD->Int)(w:List aD)(a n:Nat):cQ A w a (n+1)=cQ A w a n++[ug A w (a+n)]:=by simp[cQ,cq]
def Ur(A:aD->Int):Prop:=∀n:Int,ij (-2147483648) 2147483647 n->A (ab n)=n
def gZ{a b n:Int}(h:ij a b n)(ha : -2147483648<=a)(hb:b<=2147483647):ij (-2147483648) 2147483647 n:=⟨b7 ha h.1,b7 h.2 hb⟩
def ld.na{e:D aC}(h:ld e):ij 0 6 (e.2.1.length:Int):=⟨by omega,by have:=h.p6;omega⟩
def ld.nb{e:D aC}(h:ld e):ij 0 36 (e.2.2.1.length:Int):=⟨by omega,by have:=h.Cm;omega⟩
def ml.eq{A:aD->Int}(hA:Ur A){w:List aD}{e:D aC}(r:ml w e)(h:ld e):e=(nth .str w 0,dW A w e.2.1.length,cQ A w e.2.1.length e.2.2.1.length,()):=by
 obtain⟨s,p,q,_⟩:=e;have e1:p=dW A w p.length:=ki (t:=aG) (by rw[zT]) fun i hi=>by
  rw[J3 hi];obtain⟨k1,k2,k3⟩:=h.parts i hi;unfold partAt;rw[r.p0 i hi,r.p1 i hi,r.p2 i hi,hA _ (gZ k2 (by decide) (by decide)),hA _ (gZ k3 (by decide) (by decide))]
 have e2:q=cQ A w p.length q.length:=ki (t:=aS) (by rw[vU]) fun i hi=>by
  rw[F1 hi];obtain⟨k1,k2,k3⟩:=h.HW i hi;unfold ug;rw[r.q0 i hi,r.q1 i hi,r.q2 i hi,hA _ (gZ k1 (by decide) (by decide)),hA _ (gZ k2 (by decide) (by decide)),hA _ k3]
 have e0:nth .str w 0=s:=r.root;rw[e0];exact congrArg (fun z=>(s,z)) (show(p,q,())=(dW A w p.length,cQ A w p.length q.length,()) by rw[<-e1,<-e2])
def dC(s:aD):Int:=(dX s).1
def iM:Ur dC:=fun n h=>by
 have:=ry h (by decide) (by decide);exact nh this
def P1{e e':D aC}(h:bC e=0)(h':bC e'=0)(ht:fS e=fS e'):e=e':=by
 have k:=lF h;have k':=lF h';have hw:kS e=kS e':=by rw[<-tq k,<-tq k',ht]
 have r:=HY e;have r':=HY e';rw[hw]at r;have ha:(e.2.1.length:Int)=(e'.2.1.length:Int):=by
  rw[<-iM _ (gZ k.na (by decide) (by decide)),<-iM _ (gZ k'.na (by decide) (by decide)),<-r.a,<-r'.a]
 have hb:(e.2.2.1.length:Int)=(e'.2.2.1.length:Int):=by
  rw[<-iM _ (gZ k.nb (by decide) (by decide)),<-iM _ (gZ k'.nb (by decide) (by decide)),<-r.b,<-r'.b]
 refine(r.eq iM k).trans (Eq.trans ?_ (r'.eq iM k').symm);rw[dd.1 ha,dd.1 hb]
open Classical in
def oR(s:aD):D aC×Int:=if h:∃e:D aC,bC e=0/\fS e=s then(b9 h,0)else(bY aC,4)
def Li{s:aD}{e:D aC}(hf:bC e=0)(ht:fS e=s):oR s=(e,0):=by
 have hx:∃e:D aC,bC e=0/\fS e=s:=⟨e,hf,ht⟩
 have hc:=cz hx;unfold oR;rw[dif_pos hx,P1 hc.1 hf (hc.2.trans ht.symm)]
def S4{s:aD}(hn:∀e:D aC,bC e=0->fS e=s->False):oR s=(bY aC,4):=by
 unfold oR;rw[dif_neg fun⟨e,h1,h2⟩=>hn e h1 h2]
def gW(s:aD):D aC×aM:=((oR s).1,aI (oR s).2)
def pI{s:aD}(hn:∀e:D aC,bC e=0->fS e=s->False):(bY aC,aM.no 4)=gW s:=by unfold gW;rw[S4 hn];rfl
def P2{s:aD}{e:D aC}(h:(dI e).2.isNil=true)(ht:(dI e).1=s):(e,aM.nil)=gW s:=by
 have hf:bC e=0:=by
  apply aq;intro hf;unfold dI at h;rw[if_pos hf]at h;exact hf (aQ.1 h)
 unfold dI at ht;rw[if_neg (not_not_intro hf)]at ht;unfold gW;rw[Li hf ht];rfl
def l6(l:List aD):List Int:=l.map dC
def vo(l:List aD):Bool:=l.all fun s=>(cP s).isSome
def bS(l:List aD):List Int×Bool:=if vo l=true then(l6 l,true)else([],false)
def S5{l:List aD}{i:Nat}(hi:i<l.length)(h:cP (nth .str l i)=none):vo l=false:=by
 unfold vo;rw[c6];exact⟨nth .str l i,dV (t:=.str) hi,by rw[h];decide⟩
def zU{l:List aD}{i:Nat}(hi:i<l.length)(h:(cP (nth .str l i)).isNone=true):([],false)=bS l:=by
 unfold bS;rw[S5 hi (Option.isNone_iff_eq_none.1 h)];rfl
def vp{l:List aD}(h:∀j,j<l.length->(cP (nth .str l j)).isNone=false):vo l=true:=by
 unfold vo;rw[ca];intro s hs;obtain⟨j,hj,rfl⟩:=gR (t:=.str) hs;have:=h j hj;cases hh:cP (nth .str l j)with
 |none=>rw[hh]at this;cases this
 |some n=>rfl
def Ns{l:List aD}{i:Nat}(hi:¬i<l.length)(h:∀j,j<i->j<l.length->(cP (nth .str l j)).isNone=false):(l6 (l.take i),true)=bS l:=by
 unfold bS;rw[vp fun j hj=>h j (by omega) hj,if_pos rfl,cg (by omega)]
def Cp{l:List aD}{i:Nat}(h:i<l.length):l6 (l.take (i+1))=l6 (l.take i)++[(dX (nth .str l i)).1]:=by
 rw[iG (t:=.str) h];simp[l6,dC]
def nk{l:List aD}:(bS l).2=vo l:=by
 unfold bS;split
 ·rename_i h;rw[h]
 ·rename_i h;rw[fh _ |>.mp h]
def zV{l:List aD}(h:(bS l).2=true){i:Nat}(hi:i<l.length):nth (.int .i64) (bS l).1 i=dC (nth .str l i)/\(cP (nth .str l i)).isNone=false:=by
 have hk:=h;rw[nk]at hk;constructor
 ·unfold bS;rw[if_pos hk]
  unfold nth l6;rw[List.getD_eq_getElem?_getD,List.getD_eq_getElem?_getD,List.getElem?_map,List.getElem?_eq_getElem hi];rfl
 ·unfold vo at hk
  rw[ca]at hk;have:=hk _ (dV (t:=.str) hi);cases hh:cP (nth .str l i)with
  |none=>rw[hh]at this;cases this
  |some n=>rfl
def J4{l:List aD}(h:(bS l).2=true):(bS l).1.length=l.length:=by
 rw[nk]at h;unfold bS;rw[if_pos h];simp[l6]
structure p7 (w:List aD):Prop where
 ka:(cP (nth .str w 1)).isNone=false
 kb:(cP (nth .str w 2)).isNone=false
 a0:(0:Int)<=dC (nth .str w 1)
 a6:dC (nth .str w 1)<=(6:Int)
 b0:(0:Int)<=dC (nth .str w 2)
 fF:dC (nth .str w 2)<=(36:Int)
 len:(w.length:Int)=3+3*(dC (nth .str w 1)+dC (nth .str w 2))
def Cq{t:Ty}{l:List (D t)}{i j k:Nat}(h:i+k<j):nth t (ai i (ah j l)) k=nth t l (i+k):=by
 unfold nth;rw[List.getD_eq_getElem?_getD,List.getD_eq_getElem?_getD,List.getElem?_drop,List.getElem?_take,if_pos h]
def H0{α:Type}{l:List α}{i j:Nat}(h:j<=l.length):(ai i (ah j l)).length=j-i:=by simp;omega
def P3(s:aD)(c:UInt8)(h:s.length<=100000):(parts c (ae s [10])).length<=100001:=by
 have a:=sM c (ae s [10]);have b:=yx s [10];omega
def qL{l:List aD}{n:Nat}(h:∀y∈l,y.length<=n)(i:Nat):(nth .str l i).length<=n:=by
 by_cases hi:i<l.length
 ·exact h _ (dV (t:=.str) hi)
 ·unfold nth;rw[List.getD_eq_getElem?_getD,List.getElem?_eq_none (by omega)];exact ar _
def tt{s:aD}{c:UInt8}(h:s.length<=100000):∀y∈parts c (ae s [10]),y.length<=1000000:=fun y hy=>by
 have a:=oN c _ y hy;have b:=yx s [10];omega
def H2{l:List aD}{n:Nat}(h:∀y∈l,y.length<=n)(i j:Nat):∀y∈ai i (ah j l),y.length<=n:=fun y hy=>h y (b8 (List.mem_of_mem_drop hy))
def Va{s:aD}{c:UInt8}(h:s.length<=100000)(i j:Nat):(ai i (ah j (parts c (ae s [10])))).length<=1000000/\∀k,(nth .str (ai i (ah j (parts c (ae s [10])))) k).length<=1000000:=
 ⟨by have:=P3 s c h;simp;omega,qL (H2 (tt h) i j)⟩
def Vb{w:List aD}(h:3<=w.length)(hk:(bS (ai 1 (ah 3 w))).2=true) :
  (bS (ai 1 (ah 3 w))).1=[dC (nth .str w 1),dC (nth .str w 2)]/\(cP (nth .str w 1)).isNone=false/\(cP (nth .str w 2)).isNone=false:=by
 have hl:(ai 1 (ah 3 w)).length=2:=H0 h;obtain⟨a1,a2⟩:=zV hk (i:=0) (by omega);obtain⟨b1,b2⟩:=zV hk (i:=1) (by omega);have hn:=J4 hk;rw[Cq (t:=.str) (by omega)]at a1 a2 b1 b2;refine⟨ki (t:=.int .i64) (by rw[hn,hl];rfl) fun i hi =>?_,a2,b2⟩;rw[hn,hl]at hi;rcases(show i=0\/i=1 by omega)with rfl|rfl
 ·rw[a1];rfl
 ·rw[b1];rfl
def J5{w:List aD}(h:3<=w.length)(hk:(bS (ai 1 (ah 3 w))).2=false):¬p7 w:=by
 intro hd;have hl:(ai 1 (ah 3 w)).length=2:=H0 h;rw[nk,vp fun j hj =>?_]at hk
 ·cases hk
 ·rw[hl]at hj
  rcases(show j=0\/j=1 by omega)with rfl|rfl
  ·rw[Cq (t:=.str) (by omega)];exact hd.ka
  ·rw[Cq (t:=.str) (by omega)];exact hd.kb
def H3{w:List aD}(h:¬p7 w):(true=false↔p7 w):=⟨fun e=>Bool.noConfusion e,fun e=>absurd e h⟩
def Wv{w:List aD}(ka:(cP (nth .str w 1)).isNone=false)(kb:(cP (nth .str w 2)).isNone=false){a b x:Int}(ha:a=dC (nth .str w 1))(hb:b=dC (nth .str w 2))
  (a0:0<=a)(a6:a<=6)(b0:0<=b)(fF:b<=36)(hx:x=3*(a+b)):(((w.length:Int) != 3+x)=false↔p7 w):=by
 subst ha;subst hb;subst hx;constructor
 ·intro h;exact⟨ka,kb,a0,a6,b0,fF,by simpa using h⟩
 ·intro h;simpa using h.len
def p8{s:aD}{e:D aC}(hf:bC e=0)(ht:fS e=s):ml (parts 32 (ae s [10])) e/\ld e:=by
 have k:=lF hf;rw[<-ht,tq k];exact⟨HY e,k⟩
def ml.na{A:aD->Int}(hA:Ur A){w:List aD}{e:D aC}(r:ml w e)(k:ld e):A (nth .str w 1)=(e.2.1.length:Int):=by rw[r.a,hA _ (gZ k.na (by decide) (by decide))]
def ml.nb{A:aD->Int}(hA:Ur A){w:List aD}{e:D aC}(r:ml w e)(k:ld e):A (nth .str w 2)=(e.2.2.1.length:Int):=by rw[r.b,hA _ (gZ k.nb (by decide) (by decide))]
def nn{n:Int}(h:ij (-2147483648) 2147483647 n):(cP (ab n)).isNone=false:=by rw[ry h (by decide) (by decide)];rfl
def ml.hd{w:List aD}{e:D aC}(r:ml w e)(k:ld e):p7 w:=by
 have a:=r.na iM k;have b:=r.nb iM k;have c:=k.p6;have d:=k.Cm;have l:=r.len;refine⟨by rw[r.a];exact nn (gZ k.na (by decide) (by decide)),by rw[r.b];exact nn (gZ k.nb (by decide) (by decide)),?_,?_,?_,?_,?_⟩ <;> (try rw[a]) <;> (try rw[b]) <;> omega
section
variable{s:aD}
def H4(h:(parts 32 (ae s [10])).length<3):(bY aC,aM.no 4)=gW s:=pI fun e hf ht=>by
 have:=(p8 hf ht).1.len;omega
def J6(h:¬p7 (parts 32 (ae s [10]))):(bY aC,aM.no 4)=gW s:=pI fun e hf ht=>h ((p8 hf ht).1.hd (p8 hf ht).2)
def S6{w:List aD}{e:D aC}(r:ml w e)(k:ld e){i:Nat}(hi:i<e.2.1.length):(cP (nth .str w (4+3*i))).isNone=false/\(cP (nth .str w (5+3*i))).isNone=false:=by
 obtain⟨_,k2,k3⟩:=k.parts i hi;rw[r.p1 i hi,r.p2 i hi];exact⟨nn (gZ k2 (by decide) (by decide)),nn (gZ k3 (by decide) (by decide))⟩
def P4{w:List aD}{e:D aC}(r:ml w e)(k:ld e){i:Nat}(hi:e.2.1.length<=i)(hi2:i<e.2.1.length+e.2.2.1.length) :
  (cP (nth .str w (3+3*i))).isNone=false/\(cP (nth .str w (4+3*i))).isNone=false/\(cP (nth .str w (5+3*i))).isNone=false:=by
 obtain⟨j,rfl⟩:∃j,i=e.2.1.length+j:=⟨i-e.2.1.length,by omega⟩
 obtain⟨k1,k2,k3⟩:=k.HW j (by omega);rw[r.q0 j (by omega),r.q1 j (by omega),r.q2 j (by omega)];exact⟨nn (gZ k1 (by decide) (by decide)),nn (gZ k2 (by decide) (by decide)),nn k3⟩
structure lj (w x:List aD) (i:Nat):Prop where
 len:x.length=3
 a:nth .str x 0=nth .str w (3+3*i)
 b:nth .str x 1=nth .str w (4+3*i)
 c:nth .str x 2=nth .str w (5+3*i)
def P5{w:List aD}{i:Nat}{p q:Int}(hp:p=3*(i:Int))(hq:q=3*(i:Int))(h:3+3*(i+1)<=w.length):lj w (ai (cc (3+p)) (ah (cc (6+q)) w)) i:=by
 subst hp;subst hq;rw[show cc (3+3*(i:Int))=3+3*i by omega,show cc (6+3*(i:Int))=6+3*i by omega];refine⟨by rw[H0 (by omega)];omega,?_,?_,?_⟩ <;> rw[Cq (t:=.str) (by omega)] <;> congr 1 <;> omega
def zW{n:Nat}{w x:List aD}{i:Nat}(h:lj w x i)(hw:∀y∈w,y.length<=n)(k:Nat):(nth .str x k).length<=n:=by
 rcases bg k 3 with hk|hk
 ·rcases(show k=0\/k=1\/k=2 by omega)with rfl|rfl|rfl
  ·rw[h.a];exact qL hw _
  ·rw[h.b];exact qL hw _
  ·rw[h.c];exact qL hw _
 ·unfold nth;rw[List.getD_eq_getElem?_getD,List.getElem?_eq_none (by rw[h.len];omega)];exact ar _
def Cr{w x:List aD}{i:Nat}(h:lj w x i):ai 1 (ah (bj x) x)=[nth .str w (4+3*i),nth .str w (5+3*i)]:=by
 match x,h with
 |[p,q,r],h=>rw[<-h.b,<-h.c];rfl
def H5{w x:List aD}{i:Nat}(h:lj w x i):x=[nth .str w (3+3*i),nth .str w (4+3*i),nth .str w (5+3*i)]:=by
 match x,h with
 |[p,q,r],h=>rw[<-h.a,<-h.b,<-h.c];rfl
def EU{w x:List aD}{i:Nat}(h:lj w x i)(hk:(bS (ai 1 (ah (bj x) x))).2=true) :
  (bS (ai 1 (ah (bj x) x))).1=[dC (nth .str w (4+3*i)),dC (nth .str w (5+3*i))]:=by
 rw[nk]at hk;unfold bS;rw[if_pos hk,Cr h];rfl
def H6{w x:List aD}{i:Nat}(h:lj w x i)(hk:(bS x).2=true):(bS x).1=[dC (nth .str w (3+3*i)),dC (nth .str w (4+3*i)),dC (nth .str w (5+3*i))]:=by
 rw[nk]at hk;unfold bS;rw[if_pos hk];conv=>lhs;rw[H5 h]
 rfl
def J7{x:List aD}{i:Nat}(h:lj (parts 32 (ae s [10])) x i)(hi:(i:Int)<dC (nth .str (parts 32 (ae s [10])) 1))(hk:(bS (ai 1 (ah (bj x) x))).2=false):(bY aC,aM.no 4)=gW s:=
 pI fun e hf ht=>by
  obtain⟨r,k⟩:=p8 hf ht;rw[r.na iM k]at hi;obtain⟨a,b⟩:=S6 r k (i:=i) (by omega);rw[nk,Cr h,vp fun j hj =>?_]at hk
  ·cases hk
  ·rcases(show j=0\/j=1 by simp at hj;omega)with rfl|rfl
   ·exact a
   ·exact b
def H7{x:List aD}{i:Nat}(h:lj (parts 32 (ae s [10])) x i)(hi:dC (nth .str (parts 32 (ae s [10])) 1)<=(i:Int))(hi2:(i:Int)<dC (nth .str (parts 32 (ae s [10])) 1)+dC (nth .str (parts 32 (ae s [10])) 2))(hk:(bS x).2=false):(bY aC,aM.no 4)=gW s:=
 pI fun e hf ht=>by
  obtain⟨r,k⟩:=p8 hf ht;rw[r.na iM k]at hi hi2;rw[r.nb iM k]at hi2;obtain⟨a,b,c⟩:=P4 r k (i:=i) (by omega) (by omega);rw[H5 h]at hk;rw[nk,vp fun j hj =>?_]at hk
  ·cases hk
  ·rcases(show j=0\/j=1\/j=2 by simp at hj;omega)with rfl|rfl|rfl
   ·exact a
   ·exact b
   ·exact c
def Ge(A:aD->Int)(w:List aD)(a b:Nat):D aC:=(nth .str w 0,dW A w a,cQ A w a b,())
def zX{a b:Nat}(ha:dC (nth .str (parts 32 (ae s [10])) 1)=(a:Int))(hb:dC (nth .str (parts 32 (ae s [10])) 2)=(b:Int))
  (h:(dI (Ge dC (parts 32 (ae s [10])) a b)).2.isNil=false\/¬(dI (Ge dC (parts 32 (ae s [10])) a b)).1=s):(bY aC,aM.no 4)=gW s:=
 pI fun e hf ht=>by
  obtain⟨r,k⟩:=p8 hf ht;rw[r.na iM k]at ha;rw[r.nb iM k]at hb;have he:Ge dC (parts 32 (ae s [10])) a b=e:=by
   rw[<-dd.1 ha,<-dd.1 hb];exact(r.eq iM k).symm
  rw[he]at h;unfold dI at h;rw[if_neg (not_not_intro hf)]at h;rcases h with h|h
  ·cases h
  ·exact h ht
end
def q7(w:List aD)(y:List Int×Bool):Prop:=(y.2=true->y.1=[dC (nth .str w 1),dC (nth .str w 2)]/\(cP (nth .str w 1)).isNone=false/\(cP (nth .str w 2)).isNone=false)/\(y.2=false->¬p7 w)
def Vc{w:List aD}(h:3<=w.length):q7 w (bS (ai 1 (ah 3 w))):=⟨fun hk=>Vb h hk,fun hk=>J5 h hk⟩
def q7.ok{w:List aD}{y:List Int×Bool}(h:q7 w y)(hd:p7 w):y.2=true:=by
 cases hy:y.2 with
 |true=>rfl
 |false=>exact absurd hd (h.2 hy)
def q7.get{w:List aD}{y:List Int×Bool}(h:q7 w y)(hd:p7 w):y.1=[dC (nth .str w 1),dC (nth .str w 2)]:=(h.1 (h.ok hd)).1
def q7.l0{w:List aD}{y:List Int×Bool}(h:q7 w y)(hy:y.2=true):@Eq Int (nth (.int .i64) y.1 0) (dC (nth .str w 1)):=by rw[(h.1 hy).1];rfl
def q7.l1{w:List aD}{y:List Int×Bool}(h:q7 w y)(hy:y.2=true):@Eq Int (nth (.int .i64) y.1 1) (dC (nth .str w 2)):=by rw[(h.1 hy).1];rfl
def q7.k0{w:List aD}{y:List Int×Bool}(h:q7 w y)(hd:p7 w):@Eq Int (nth (.int .i64) y.1 0) (dC (nth .str w 1)):=h.l0 (h.ok hd)
def q7.k1{w:List aD}{y:List Int×Bool}(h:q7 w y)(hd:p7 w):@Eq Int (nth (.int .i64) y.1 1) (dC (nth .str w 2)):=h.l1 (h.ok hd)
def P6{w x:List aD}{i:Nat}(h:lj w x i)(hw:∀y∈w,y.length<=1000000):x.length<=1000000/\∀k,(nth .str x k).length<=1000000:=⟨by rw[h.len];decide,zW h hw⟩
def P7{w x:List aD}{i:Nat}(h:lj w x i){n:Nat}(hw:∀y∈w,y.length<=n):∀y∈x,y.length<=n:=fun y hy=>by
 obtain⟨k,hk,rfl⟩:=gR (t:=.str) hy;exact zW h hw k
def Nt{w x:List aD}{i:Nat}(h:lj w x i)(hw:∀y∈w,y.length<=1000000):(ai 1 (ah (bj x) x)).length<=1000000/\∀k,(nth .str (ai 1 (ah (bj x) x)) k).length<=1000000:=
 ⟨by have:=h.len;simp;omega,qL (H2 (P7 h hw) _ _)⟩
def P8(A:aD->Int)(w:List aD)(k:Nat):([]:List (D aG))=dW A w (a8 0 k):=by rw[show a8 0 k=0 from Nat.zero_min k];rfl
def Us(A:aD->Int)(w:List aD)(k:Nat):([]:List (D aS))=cQ A w k (0-k):=by rw[Nat.zero_sub];rfl
def P9{i k:Nat}(h:i<k):a8 i k=i/\a8 (i+1) k=i+1:=⟨c7 (by omega),c7 h⟩
def H8{i k:Nat}(h:k<=i):a8 i k=k/\a8 (i+1) k=k:=⟨fp h,fp (by omega)⟩
def EV{w x:List aD}{i k:Nat}(h:lj w x i)(hk:(bS (ai 1 (ah (bj x) x))).2=true)(hi:i<k) :
  dW dC w (a8 i k)++[(nth .str x 0,nth (.int .i64) (bS (ai 1 (ah (bj x) x))).1 0,nth (.int .i64) (bS (ai 1 (ah (bj x) x))).1 1,())]=dW dC w (a8 (i+1) k):=by
 rw[(P9 hi).1,(P9 hi).2,HZ,EU h hk,h.a];rfl
def EW{A:aD->Int}{w:List aD}{i k:Nat}(hi:i<k):cQ A w k (i-k)=cQ A w k (i+1-k):=by congr 1;omega
def Cs{A:aD->Int}{w:List aD}{i k:Nat}(hi:k<=i):dW A w (a8 i k)=dW A w (a8 (i+1) k):=by rw[(H8 hi).1,(H8 hi).2]
def H9{w x:List aD}{i k:Nat}(h:lj w x i)(hk:(bS x).2=true)(hi:k<=i) :
  cQ dC w k (i-k)++[(nth (.int .i64) (bS x).1 0,nth (.int .i64) (bS x).1 1,nth (.int .i64) (bS x).1 2,())]=cQ dC w k (i+1-k):=by
 rw[show i+1-k=(i-k)+1 by omega,Dq,H6 h hk];unfold ug;rw[show k+(i-k)=i by omega];rfl
def Ia{A:aD->Int}{w:List aD}{i a b:Nat}(h:i=a+b):(((nth .str w 0,dW A w (a8 i a),cQ A w a (i-a),())):D aC)=Ge A w a b:=by
 rw[(H8 (i:=i) (k:=a) (by omega)).1,show i-a=b by omega];rfl
def Nu{A:aD->Int}{w:List aD}{n:Nat}{x:D aG}(h:n<=100):(dW A w n).length+ [x].length<=1000000000:=by rw[zT,da];omega
def Qa{A:aD->Int}{w:List aD}{k n:Nat}{x:D aS}(h:n<=100):(cQ A w k n).length+ [x].length<=1000000000:=by rw[vU,da];omega
def J8{A:aD->Int}{w:List aD}{i k:Nat}{x:D aG}(h:k<=100):(dW A w (a8 i k)).length+ [x].length<=1000000000:=Nu (b5 (Nat.min_le_right i k) h)
def vq{e:D aC}(h:(dI e).2.isNil=true):bC e=0/\(dI e).1=fS e:=by
 have hf:bC e=0:=by
  apply aq;intro hf;unfold dI at h;rw[if_pos hf]at h;exact hf (aQ.1 h)
 exact⟨hf,by unfold dI;rw[if_neg (not_not_intro hf)]⟩
def Nv{e:D aC}(h:(dI e).2.isNil=true):(dI e).1.length<=2753:=by
 obtain⟨hf,ht⟩:=vq h;rw[ht];unfold fS;have:=(lF hf).AJ e.2.2.1.length;rw[aw];unfold rk;simp;omega
section
variable{s:aD}
end
def Ib(e:D aC):(dI e).2=aI (bC e):=by
 unfold dI;split
 ·rfl
 ·next h=>rw[Classical.not_not.1 h];rfl
end Go.Mrl

namespace Go.Vg
open Go.RowKit
def mL(F:Fence):Prop:=F=bd\/∃l,F=bd.inRound l
def mm(ds:List Deferred)(a:Act):Act:={a with defers:=ds}
def rB(ds:List Deferred)(a:Act)(d:Option Tmp)(v:Value):(mm ds a).put d v=mm ds (a.put d v):=by cases d <;> rfl
def Ic(ds:List Deferred)(a:Act):(mm ds a).eval=a.eval:=by funext x;cases x <;> rfl
def Ie(ds:List Deferred)(a:Act):(mm ds a).tmps=a.tmps:=rfl
def put_defers(a:Act)(d:Option Tmp)(v:Value):(a.put d v).defers=a.defers:=by cases d <;> rfl
section
variable{P:Program}{F:Fence}{n:Nat}
def mL.fn(h:mL F)(f:FuncId):F.fn f:=by rcases h with rfl|⟨l,rfl⟩ <;> trivial
def mL.deep(h:mL F):¬F.depth.isSome=true:=by rcases h with rfl|⟨l,rfl⟩ <;> simp[bd,Fence.inRound]
def mL.calls(h:mL F){f:FuncId}{args:Array Value}{w:World}{R:Ending->World->Prop}(hc:Calls P f args w R):CallsIn F n P f args w R:=by
 rcases h with rfl|⟨l,rfl⟩
 ·exact callsIn_wide.2 hc
 ·exact CallsIn.inRound l (callsIn_wide.2 hc)
def mL.rows(h:mL F){row:String}{args:Array Value}{w:World}{R:Value->World->Prop}(hc:Rows P row args w R):RowsIn F n P row args w R:=by
 have hs:∀{m m':Machine},Steps P m m'->StepsIn (Machine.fenced P F) P m m':=by
  rcases h with rfl|⟨l,rfl⟩
  ·exact stepsIn_wide.2
  ·exact fun hh=>stepsIn_wide.2 hh
 intro c cs _;obtain⟨v,w',r,s⟩:=hc c cs;exact⟨v,w',r,hs s⟩
structure vr (Q:Exit->Act->World->Prop):Prop where
 bare:∀e a w,Q e a w->a.defers=[]
 Qb:∀c a w,¬Q (.panic c) a w
 out:¬LetsOut Q
variable{Q Q':Exit->Act->World->Prop}
def Dr(hQ:vr Q){o:Oper}{K:Act->World->Prop}(hK:∀a w,K a w->a.defers=[]){a:Act}{w:World}(h:o.wp P a w K Q):a.defers=[]:=by
 unfold Oper.wp at h;generalize (execOp a.eval o).run P w=r at h;cases r with
 |ok x w'=>
  cases x with
  |value v=>have:=hK _ _ h;rwa [put_defers]at this
  |skip=>have:=hK _ _ h;rwa [put_defers]at this
  |defer d=>have:=hK _ _ h;rw[put_defers]at this;cases this
  |enter f args=>
   obtain⟨e,w2,fr,hr,_⟩:=h [];cases e with
   |returned v=>have:=hK _ _ hr;rwa [put_defers]at this
   |panicked c=>exact absurd hr (hQ.Qb _ _ _)
   |outgrown=>exact absurd hr hQ.out
  |row row args=>
   obtain⟨v,w2,hr,_⟩:=h default [];have:=hK _ _ hr;rwa [put_defers]at this
  |_=>exact h.elim
 |halt x w'=>
  cases x with
  |panic v=>exact absurd h (hQ.Qb _ _ _)
  |_=>exact h.elim
def nN(o:Oper):Bool:=match o.op with
 |.defer _=>false
 |_=>true
def Nw{o:Oper}(h:nN o=true):∀c,o.op≠.defer c:=by
 intro c e;unfold nN at h;rw[e]at h;cases h
def Ut(hF:mL F)(hQ:vr Q){o:Oper}(hnd:nN o=true){K K':Act->World->Prop}{ds:List Deferred}(hK:∀a w,K a w->a.defers=[])(hK':∀a w,K a w->K' (mm ds a) w){a:Act}{w:World}
  (h:o.wp P a w K Q):o.wpIn F n P (mm ds a) w K' Q':=by
 refine⟨fun f _=>hF.fn f,?_⟩;rw[fq _ _ _ (Nw hnd),Ic];unfold Oper.wp at h;have hb:=Dr (P:=P) hQ hK (o:=o) (a:=a) (w:=w) h;generalize (execOp a.eval o).run P w=r at h;cases r with
 |ok x w'=>
  cases x with
  |value v=>simp only[cr,rB];exact hK' _ _ h
  |skip=>simp only[cr,rB];exact hK' _ _ h
  |defer d=>have:=hK _ _ h;rw[put_defers]at this;cases this
  |enter f args=>
   simp only[cr];refine⟨fun e=>absurd e hF.deep,hF.calls (Calls.mono h fun e w2 hr =>?_)⟩;cases e with
   |returned v=>simp only[rB];exact hK' _ _ hr
   |panicked c=>exact absurd hr (hQ.Qb _ _ _)
   |outgrown=>exact absurd hr hQ.out
  |row row args=>
   simp only[cr];refine⟨fun e=>absurd e hF.deep,hF.rows (Rows.mono h fun v w2 hr =>?_)⟩;simp only[rB];exact hK' _ _ hr
  |_=>exact h.elim
 |halt x w'=>
  cases x with
  |panic v=>exact absurd h (hQ.Qb _ _ _)
  |_=>exact h.elim
def xE(hQ:vr Q){ops:Array Oper}:∀(l:List Oper) (a:Act) (w:World),wpList P ops Q l a w->a.defers=[]
 |[],a,w,h=>hQ.bare _ _ _ h
 |o :: r,a,w,h=>by
  unfold wpList at h;split at h
  ·rcases h with h|⟨_,h⟩
   ·exact Dr hQ (fun a w h=>xE hQ r a w h) h
   ·exact absurd h hQ.out
  ·have:=xE hQ r _ _ h;rwa [put_defers]at this
def Ds(hF:mL F)(hQ:vr Q){ds:List Deferred}(hE:∀a w,Q .normal a w->Q' .normal (mm ds a) w){ops:Array Oper}:∀(l:List Oper) (_:l.all nN=true) (a:Act) (w:World),wpList P ops Q l a w->wpListIn F n P ops Q' l (mm ds a) w
 |[],_,a,w,h=>hE a w h
 |o :: r,hl,a,w,h=>by
  simp only[List.all_cons,af]at hl;unfold wpListIn;unfold wpList at h;rw[Ie];split
  ·rename_i hw
   rw[if_pos hw]at h;rcases h with h|⟨_,h⟩
   ·exact Ut hF hQ hl.1 (fun a w h=>xE hQ r a w h) (fun a w h=>Ds hF hQ hE r hl.2 a w h) h
   ·exact absurd h hQ.out
  ·rename_i hw
   rw[if_neg hw]at h;refine⟨fun f _=>hF.fn f,?_⟩;rw[rB];exact Ds hF hQ hE r hl.2 _ _ h
def Qc(hQ:vr Q){ops:Array Oper}{i:Nat}{K:Act->World->Prop}(hK:∀a w,K a w->a.defers=[]){a:Act}{w:World}(h:wpOp P ops Q i K a w):a.defers=[]:=by
 unfold wpOp at h;split at h
 ·exact hK _ _ h
 ·split at h
  ·rcases h with h|⟨_,h⟩
   ·exact Dr hQ hK h
   ·exact absurd h hQ.out
  ·have:=hK _ _ h;rwa [put_defers]at this
def Ig(hQ:vr Q){ops:Array Oper}{md:fs}:∀(n:Nat) (L:Array Bool) (a:Act) (w:World),wpAny P md ops Q n L a w->a.defers=[]
 |0,_,_,_,h=>hQ.bare _ _ _ h.2
 |n+1,L,a,w,h=>by
  cases hr:Region.ready md ops L with
  |nil=>exact hQ.bare _ _ _ (h.1 hr)
  |cons i r=>exact Qc hQ (fun a w h=>Ig hQ n _ a w h) (h.2 i (by rw[hr];simp))
def Vd(hF:mL F)(hQ:vr Q){ops:Array Oper}(hl:ops.toList.all nN=true){ds:List Deferred}{i:Nat}{K K':Act->World->Prop}(hK:∀a w,K a w->a.defers=[])(hK':∀a w,K a w->K' (mm ds a) w){a:Act}{w:World}
  (h:wpOp P ops Q i K a w):wpOpIn F n P ops Q' i K' (mm ds a) w:=by
 unfold wpOpIn;unfold wpOp at h;split
 ·rename_i hi;simp only[hi]at h;exact hK' _ _ h
 ·rename_i o hi
  simp only[hi]at h;have ho:nN o=true:=ca.1 hl o (by rw[<-Array.getElem?_toList]at hi;exact br hi);rw[Ie];split
  ·rename_i hw
   rw[if_pos hw]at h;rcases h with h|⟨_,h⟩
   ·exact Ut hF hQ ho hK hK' h
   ·exact absurd h hQ.out
  ·rename_i hw
   rw[if_neg hw]at h;refine⟨fun f _=>hF.fn f,?_⟩;rw[rB];exact hK' _ _ h
def Qd(hF:mL F)(hQ:vr Q){ds:List Deferred}(hE:∀a w,Q .normal a w->Q' .normal (mm ds a) w){ops:Array Oper}(hl:ops.toList.all nN=true){md:fs}:∀(k:Nat) (L:Array Bool) (a:Act) (w:World),wpAny P md ops Q k L a w->wpAnyIn F n P md ops Q' k L (mm ds a) w
 |0,_,_,_,h=>⟨h.1,hE _ _ h.2⟩
 |k+1,L,a,w,h=>⟨fun e=>hE _ _ (h.1 e),fun i hi=>Vd hF hQ hl (fun a w h=>Ig hQ k _ a w h) (fun a w h=>Qd hF hQ hE hl k _ a w h) (h.2 i hi)⟩
end
def kB:Code->Bool
 |.skip=>true
 |.region _ ops _=>ops.toList.all nN
 |.seq a b=>kB a&&kB b
 |.cond _ a b=>kB a&&kB b
 |.block _ b=>kB b
 |.exit _=>true
 |.ret=>true
 |_=>false
section
variable{X:Ext}{P:Program}{cx:Cx}{F:Fence}{n:Nat}
def zY(ds:List Deferred)(Q:Exit->Act->World->Prop):Exit->Act->World->Prop:=fun e a w=>∃a',a=mm ds a'/\a'.defers=[]/\Q e a' w
def AV{O:aH}{K:Ex->St->VC}{W:List Nat}{st:St}{S:bH}:vr (jx cx X O K W st S) where
 bare e a w h:=by
  cases e with
  |normal=>obtain⟨_,_,_,_,_,k,_⟩:=h;exact k.defers
  |exit i=>obtain⟨_,_,_,_,_,k,_⟩:=h;exact k.defers
  |ret=>obtain⟨_,_,_,_,_,k,_⟩:=h;exact k.defers
  |goto l=>exact h.elim
  |panic c=>exact h.elim
  |outgrown=>exact h.elim
 Qb c a w h:=h.elim
 out h:=let⟨_,_,hh⟩:=h;hh.elim
def jx.on{O:aH}{K:Ex->St->VC}{W:List Nat}{st:St}{S:bH}{ds:List Deferred}{e:Exit}{a:Act}{w:World}(h:jx cx X O K W st S e a w):zY ds (jx cx X O K W st S) e (mm ds a) w:=⟨a,rfl,AV.bare _ _ _ h,h⟩
def Ww(hok:lq P cx X)(hF:mL F)(ds:List Deferred){O:aH}{id:Nat}{ops:Array Oper}{draw:Bool}(hl:ops.toList.all nN=true){st:St}{loc:Nat->Loc}{w:World}{a:Act}{K:Ex->St->VC}(hA:fQ cx (aB O st loc w) st a)(g:Good cx.eT X (aB O st loc w))(hO:eR O w)
  (h:(yl cx ops draw st (K .normal)).holds):(Code.region id ops draw).wpIn F n P (zY ds (jx cx X O K (dS ops.toList) st (aB O st loc w))) (mm ds a) w:=by
 have hW:∀(j:Nat) (oj:Oper) (d:Nat),ops[j]?=some oj->oj.dst=some d->d∈dS ops.toList:=by
  intro j oj d hj hd;exact eh.2 ⟨oj,by rw[<-Array.getElem?_toList]at hj;exact br hj,hd⟩
 have hq:∀st' loc' a' w',(K .normal st').holds->Good cx.eT X (aB O st' loc' w')->Tr (aB O st loc w) (aB O st' loc' w')->fQ cx (aB O st' loc' w') st' a'->nA (dS ops.toList) st st'->
   jx cx X O K (dS ops.toList) st (aB O st loc w) .normal a' w':=fun st' loc' a' w' h1 h2 h3 h4 h5=>⟨st',loc',h1,h2,h3,h4,h5⟩
 unfold yl at h;cases draw with
 |false=>
  refine wpIn_region_list (Ds hF AV (fun a w h=>h.on) _ hl _ _ ?_);exact yQ hok hW ops.toList (fun o ho d hd=>eh.2 ⟨o,ho,hd⟩) hA g hO h hq
 |true=>
  split at h
  ·rename_i e;cases e
  ·rename_i e
   split at h
   ·rename_i hreg
    rw[KV]at h;refine wpIn_region_any hok.mixed (Qd hF AV (fun a w h=>h.on) hl _ _ _ _ (C7 (loud:=km cx ops.toList) _ _ _ _ (aB O st loc {w with drawn:=w.drawn+1}).A ?_));have hdrew:Below w.heap.size w {w with drawn:=w.drawn+1}:=⟨rfl,rfl,ak _,fun _ _=>rfl⟩;obtain⟨tr,g'⟩:=o8 (S:=aB O st loc w) (S':=aB O st loc {w with drawn:=w.drawn+1}) g rfl rfl rfl rfl hdrew;refine yR hok hW hreg (fun c a w h=>h) ops.size _ ?_ ⟨hA.size,hA.defers,hA.env.tr tr⟩ g' (hO.tr (ak _)) h ?_
    ·intro j o ho hj
     rw[ei,Array.getElem?_replicate]at hj;split at hj <;> simp at hj
    ·intro st' loc' a' w' h1 h2 h3 h4 h5
     obtain⟨st2,loc2,k1,k2,k3,k4,k5⟩:=fX.Xc (K:=K .normal) (f:=canon st.next (dS ops.toList)) (W:=dS ops.toList) hA (fun st'=>by
      rcases BK st.next (dS ops.toList) st' with e|⟨r,q,k1,k2⟩
      ·exact .inl e
      ·exact .inr ⟨r,q,k1,k2⟩) (⟨st',loc',h1,h2,tr.trans h3,h4,h5⟩:fX cx X O (fun st'=>K .normal (canon st.next (dS ops.toList) st')) (dS ops.toList) st (aB O st loc w) a' w')
     exact hq st2 loc2 a' w' k1 k2 k3 k4 k5
   ·exact h.elim
def zY.mono{ds:List Deferred}{Q Q':Exit->Act->World->Prop}(h:∀e a w,Q e a w->Q' e a w){e:Exit}{a:Act}{w:World}(hq:zY ds Q e a w):zY ds Q' e a w:=let⟨a',k1,k2,k3⟩:=hq;⟨a',k1,k2,h _ _ _ k3⟩
def xF(hok:lq P cx X)(hF:mL F)(ds:List Deferred){O:aH}:∀(c:Code) (cur:Nat) (_:kB c=true) {st:St} {loc:Nat->Loc} {w:World} {a:Act} {K:Ex->St->VC},
  fQ cx (aB O st loc w) st a->Good cx.eT X (aB O st loc w)->eR O w->(vc cx [] c cur st K).holds->c.wpIn F n P (zY ds (jx cx X O K (writes [] cur c) st (aB O st loc w))) (mm ds a) w:=by
 intro c;induction c with
 |skip=>intro cur _ st loc w a K hA g hO h;exact wpIn_skip (jx.on ⟨st,loc,h,g,Tr.refl _,hA,fun _ _ _ _ h=>h⟩)
 |region id ops draw=>
  intro cur hs st loc w a K hA g hO h;exact Ww hok hF ds hs hA g hO h
 |seq c1 c2 ih1 ih2=>
  intro cur hs st loc w a K hA g hO h;simp only[kB,af]at hs;refine wpIn_seq ?_;refine wpIn_mono (ih1 cur hs.1 hA g hO h) ?_;rintro e a0 w' ⟨a',rfl,hb,hq⟩;have key:∀e,e≠.normal->jx cx X O (fun e st'=>match e with
   |.normal=>vc cx [] c2 cur st' K
   |e=>K e st') (writes [] cur c1) st (aB O st loc w) e a' w'->zY ds (jx cx X O K (writes [] cur (.seq c1 c2)) st (aB O st loc w)) e (mm ds a') w':=by
   intro e he hq;refine jx.on (jx.mono (W:=writes [] cur c1) (st1:=st) (S1:=aB O st loc w) ?_ (Tr.refl _) (fun _ _ _ _ h=>h) (fun n hn=>au.2 (.inl hn)));cases e with
   |normal=>exact absurd rfl he
   |exit i=>exact hq
   |ret=>exact hq
   |goto l=>exact hq.elim
   |panic c=>exact hq.elim
   |outgrown=>exact hq.elim
  cases e with
  |normal=>
   obtain⟨st',loc',k1,k2,k3,k4,k5⟩:=hq;refine wpIn_mono (ih2 cur hs.2 k4 k2 (hO.tr k3.size) k1) ?_;intro e a2 w2 hq2;exact hq2.mono fun e a w hq=>hq.mono k3 (W':=writes [] cur (.seq c1 c2)) (fun hm t ht=>k5 (fun h=>hm (au.2 (.inl h))) t fun hm=>ht (au.2 (.inl hm))) (fun n hn=>au.2 (.inr hn))
  |exit i=>exact key _ (by simp) hq
  |ret=>exact key _ (by simp) hq
  |goto l=>exact hq.elim
  |panic c=>exact hq.elim
  |outgrown=>exact hq.elim
 |cond x c1 c2 ih1 ih2=>
  intro cur hs st loc w a K hA g hO h;simp only[kB,af]at hs;have hx:=bM hA.env x;have h1:∀{K},(vc cx [] c1 cur st K).holds->c1.wpIn F n P (zY ds (jx cx X O K (writes [] cur (.cond x c1 c2)) st (aB O st loc w))) (mm ds a) w:=fun h=>
   wpIn_mono (ih1 cur hs.1 hA g hO h) fun e a' w' hq=>hq.mono fun e a w hq=>hq.mono (Tr.refl _) (fun _ _ _ _ h=>h) (fun n hn=>au.2 (.inl hn))
  have h2:∀{K},(vc cx [] c2 cur st K).holds->c2.wpIn F n P (zY ds (jx cx X O K (writes [] cur (.cond x c1 c2)) st (aB O st loc w))) (mm ds a) w:=fun h=>
   wpIn_mono (ih2 cur hs.2 hA g hO h) fun e a' w' hq=>hq.mono fun e a w hq=>hq.mono (Tr.refl _) (fun _ _ _ _ h=>h) (fun n hn=>au.2 (.inr hn))
  have hev:(mm ds a).eval x=a.eval x:=by rw[Ic]
  have h':(match dY st.env x with
    |.lit true=>vc cx [] c1 cur st K
    |.lit false=>vc cx [] c2 cur st K
    |.d .bool g =>.ite g (vc cx [] c1 cur st K) (vc cx [] c2 cur st K)
    |_ =>.ff).holds:=h
  split at h'
  ·rename_i hl;rw[hl]at hx;exact wpIn_cond_true (hev.trans hx) (h1 h')
  ·rename_i hl;rw[hl]at hx;exact wpIn_cond_false (hev.trans hx) (h2 h')
  ·rename_i b hl
   rw[hl]at hx;have hx:=(eN (eT:=cx.eT) (S:=aB O st loc w) (b:=b)).1 hx;cases b
   ·exact wpIn_cond_false (hev.trans hx) (h2 (h'.2 rfl))
   ·exact wpIn_cond_true (hev.trans hx) (h1 (h'.1 rfl))
  ·exact h'.elim
 |block id b ih=>
  intro cur hs st loc w a K hA g hO h;refine wpIn_block ?_;have h':(vc cx [] b id st fun e st'=>match e with
   |.exit i=>match bp i id with
    |true=>K .normal st'
    |false=>K (.exit i) st'
   |e=>K e st').holds:=h
  refine wpIn_mono (ih id hs hA g hO h') ?_;rintro e a0 w' ⟨a',rfl,hb,hq⟩;cases e with
  |normal=>exact jx.on hq
  |exit i=>
   obtain⟨st',loc',k1,k2,k3,k4,k5⟩:=hq;simp only at k1;show if i=id then _ else _
   split at k1
   ·rename_i hi
    rw[if_pos (bz hi)];exact jx.on ⟨st',loc',k1,k2,k3,k4,k5⟩
   ·rename_i hi
    rw[if_neg (fun e=>by rw[e,Nat.beq_refl]at hi;cases hi)];exact jx.on ⟨st',loc',k1,k2,k3,k4,k5⟩
  |ret=>exact jx.on hq
  |goto l=>exact hq.elim
  |panic c=>exact hq.elim
  |outgrown=>exact hq.elim
 |exit id=>intro cur _ st loc w a K hA g hO h;exact wpIn_exit (jx.on ⟨st,loc,h,g,Tr.refl _,hA,fun _ _ _ _ h=>h⟩)
 |ret=>intro cur _ st loc w a K hA g hO h;exact wpIn_ret (jx.on ⟨st,loc,h,g,Tr.refl _,hA,fun _ _ _ _ h=>h⟩)
 |_=>intro cur hs;cases hs
end
structure sa (B:Nat) (W W':World):Prop where
 os:W'.os=W.os
 output:W'.output=W.output
 size:W.heap.size<=W'.heap.size
 below:∀k,k<B->k<W.heap.size->W'.heap[k]?=W.heap[k]?
 cells:∀(k:Nat) (o:Obj),W.heap[k]?=some o->o.isCells=true->W'.heap[k]?=W.heap[k]?
def sa.of{B:Nat}{W W':World}{row:Option Nat}(hg:W.grownBy W' row)(hr:∀r,row=some r->B<=r/\∃o:Obj,W.heap[r]?=some o/\o.isCells=false):sa B W W':=
 ⟨hg.os,hg.output,hg.size,fun k h1 h2=>hg.block k h2 (fun e=>by have:=(hr k e.symm).1;omega),fun k o hk hc=>grownBy_keeps_cells hg (fun r e=>(hr r e).2) hk hc⟩
def sa.cell{B:Nat}{W W':World}(h:sa B W W'){b o:Nat}{v:Value}(hc:W.cell? ⟨b,o,none⟩=some v):W'.cell? ⟨b,o,none⟩=some v:=by
 obtain⟨ob,ho,hcs⟩:=cells_of_cell hc;exact(World.cell?_of_block (h.cells _ ob ho hcs)).trans hc
def plainO:OC->Bool
 |.cells _ _=>true
 |.aV _ _=>true
 |.arr _ _=>true
 |.tok _ _=>true
 |.ext k _ _=>bp k 0 || bp k 2
 |.iter _ _ _=>false
def oq:List (Nat×OC)->Bool
 |[]=>true
 |(_,oc) :: r=>plainO oc&&oq r
def my:∀{l:List (Nat×OC)},oq l=true->∀{n:Nat} {oc:OC},look l n=some oc->plainO oc=true
 |[],_,_,_,h=>by simp[look]at h
 |(m,x) :: r,hp,n,oc,h=>by
  simp only[oq,af]at hp;rw[cE]at h;split at h
  ·cases h;exact hp.1
  ·exact my hp.2 h
section
variable{eT:TypeId}{X:Ext}
def CR.l7{S S':bH}(hob:S'.ob=S.ob)(hloc:S'.loc=S.loc)(hn:S'.next=S.next)(hc:∀b o v,¬S.A b o->S.w.cell? ⟨b,o,none⟩=some v->S'.w.cell? ⟨b,o,none⟩=some v/\¬S'.A b o)
  {c:C}{v:Value}(h:CR eT S c v):CR eT S' c v:=by
 cases c with
 |d t x=>exact VR.frame h hc
 |app t xs n=>obtain⟨h1,h2,h3⟩:=h;exact⟨VR.frame h1 hc,by rw[hn];exact h2,by rw[hob,hloc];exact h3⟩
 |oH t x=>obtain⟨b,o,us,rfl,h1,h2⟩:=h;exact⟨b,o,us,rfl,h1.frame hc,h2.frame hc⟩
 |fn f caps=>simp only[CR,bH.fixed,hob,hloc,hn]at h ⊢;exact h
 |_=>simp only[CR,hob,hloc,hn]at h ⊢ <;> exact h
def eC.l7{S S':bH}(hob:S'.ob=S.ob)(hloc:S'.loc=S.loc)(hn:S'.next=S.next)(hc:∀b o v,¬S.A b o->S.w.cell? ⟨b,o,none⟩=some v->S'.w.cell? ⟨b,o,none⟩=some v/\¬S'.A b o)
  {cs:List C}{vs:List Value}(h:eC eT S cs vs):eC eT S' cs vs:=by
 induction h with
 |nil=>exact .nil
 |cons h1 h2 _ ih=>exact .cons (h1.l7 hob hloc hn hc) h2 ih
def ir.l7{S S':bH}(hob:S'.ob=S.ob)(hloc:S'.loc=S.loc)(hn:S'.next=S.next)(hc:∀b o v,¬S.A b o->S.w.cell? ⟨b,o,none⟩=some v->S'.w.cell? ⟨b,o,none⟩=some v/\¬S'.A b o)
  {x:cM}{v:Value}(h:ir eT S x v):ir eT S' x v:=by
 cases x with
 |one c=>exact CR.l7 hob hloc hn hc h
 |agg cs=>obtain⟨vs,rfl,h1⟩:=h;exact⟨vs,rfl,h1.l7 hob hloc hn hc⟩
def cN.l7{S S':bH}(hob:S'.ob=S.ob)(hloc:S'.loc=S.loc)(hn:S'.next=S.next)(hc:∀b o v,¬S.A b o->S.w.cell? ⟨b,o,none⟩=some v->S'.w.cell? ⟨b,o,none⟩=some v/\¬S'.A b o)
  {xs:List cM}{vs:List Value}(h:cN eT S xs vs):cN eT S' xs vs:=by
 induction h with
 |nil=>exact .nil
 |cons h1 _ ih=>exact .cons (h1.l7 hob hloc hn hc) ih
def dJ.l7{S S':bH}(hob:S'.ob=S.ob)(hloc:S'.loc=S.loc)(hn:S'.next=S.next)(hc:∀b o v,¬S.A b o->S.w.cell? ⟨b,o,none⟩=some v->S'.w.cell? ⟨b,o,none⟩=some v/\¬S'.A b o)
  {x:SV}{v:Value}(h:dJ eT S x v):dJ eT S' x v:=by
 cases x with
 |s x=>exact ir.l7 hob hloc hn hc h
 |mM xs=>obtain⟨vs,rfl,h1⟩:=h;exact⟨vs,rfl,h1.l7 hob hloc hn hc⟩
def OR.l7{S S':bH}(hob:S'.ob=S.ob)(hloc:S'.loc=S.loc)(hn:S'.next=S.next)(hc:∀b o v,¬S.A b o->S.w.cell? ⟨b,o,none⟩=some v->S'.w.cell? ⟨b,o,none⟩=some v/\¬S'.A b o)
  {l:Loc}{oc:OC}(hb:∀b,b∈l.bs->S'.w.heap[b]?=S.w.heap[b]?)(ho:OR eT X S l oc):OR eT X S' l oc:=by
 have he:∀{t:Ty} {xs:List (D t)} {vs:Array Value},kG eT S t xs vs->kG eT S' t xs vs:=fun h i y hy=>let⟨us,h1,h2⟩:=h i y hy;⟨us,h1.frame hc,h2⟩
 cases oc with
 |cells T cs=>
  obtain⟨b,vs,h1,h2,h3,h4⟩:=ho;exact⟨b,vs,h1,h2,by rw[hb b (by simp[h2])];exact h3,h4.l7 hob hloc hn hc⟩
 |aV t xs=>
  rcases ho with ho|⟨b,vs,T,cap,h1,h2,h3,h4,h5,h6,h7⟩
  ·exact .inl ho
  ·exact .inr ⟨b,vs,T,cap,h1,h2,by rw[hb b (by simp[h2])];exact h3,h4,h5,h6,he h7⟩
 |arr t xs=>
  obtain⟨b,vs,T,h1,h2,h3,h4,h5⟩:=ho;exact⟨b,vs,T,h1,h2,by rw[hb b (by simp[h2])];exact h3,h4,he h5⟩
 |tok t xs=>
  rcases ho with ho|⟨b,vs,T,cap,h1,h2,h3,h4,h5,h6,h7⟩
  ·exact .inl ho
  ·exact .inr ⟨b,vs,T,cap,h1,h2,by rw[hb b (by simp[h2])];exact h3,h4,h5,h6,he h7⟩
 |ext k t x=>exact X.frame ho hb
 |iter cs seen cl=>
  obtain⟨b,m,c,sn,h1,h2,h3,h4,h5,h6⟩:=ho;exact⟨b,m,c,sn,h1,h2,by rw[hb b (by simp[h2])];exact h3,h4.l7 hob hloc hn hc,h5,h6⟩
def OR.Qe{S:bH}{l:Loc}{oc:OC}(hp:plainO oc=true)(ho:OR eT X S l oc):∀b∈l.bs,∃vs T fz,S.w.heap[b]?=some (.cells vs T fz):=by
 intro b hb;cases oc with
 |cells T cs=>obtain⟨b',vs,_,h2,h3,_⟩:=ho;rw[h2]at hb;simp at hb;subst hb;exact⟨_,_,_,h3⟩
 |aV t xs=>
  rcases ho with⟨_,_,h⟩|⟨b',vs,T,cap,_,h2,h3,_⟩
  ·rw[h]at hb;simp at hb
  ·rw[h2]at hb;simp at hb;subst hb;exact⟨_,_,_,h3⟩
 |arr t xs=>obtain⟨b',vs,T,_,h2,h3,_⟩:=ho;rw[h2]at hb;simp at hb;subst hb;exact⟨_,_,_,h3⟩
 |tok t xs=>
  rcases ho with⟨_,_,h⟩|⟨b',vs,T,cap,_,h2,h3,_⟩
  ·rw[h]at hb;simp at hb
  ·rw[h2]at hb;simp at hb;subst hb;exact⟨_,_,_,h3⟩
 |ext k t x=>
  simp only[plainO,bq]at hp;rcases hp with hp|hp
  ·have:=bz hp
   subst this;have hd:kE t x l S.w:=X.deep.1 ho;cases t with
   |slice e=>
    obtain⟨s,_,top,hs,_,⟨_,_,_,h⟩|⟨b',vs,T,cap,cs,_,h2,h3,_,_,_,h4⟩⟩:=hd
    ·rw[h]at hb;simp at hb
    ·rw[h2]at hb
     rcases ag.1 hb with rfl|hb
     ·exact⟨_,_,_,h3⟩
     ·obtain⟨c,hc,hcb⟩:=eh.1 hb
      simp at hcb;subst hcb;obtain⟨i,hi⟩:=List.getElem?_of_mem hc;obtain⟨_,vs',T',h5⟩:=h4.yH i b hi;exact⟨_,_,_,h5⟩
   |_=>exact hd.elim
  ·have:=bz hp
   subst this;obtain⟨rfl,b',p,v,h⟩:=X.On.1 ho;rw[h.bs]at hb;rcases ag.1 hb with rfl|hb
   ·exact⟨_,_,_,h.heap⟩
   ·rcases h.row.2 with⟨rfl,_⟩|⟨g,cap,cur,rfl,_,hg,_⟩
    ·simp[ft]at hb
    ·simp[ft]at hb;subst hb;exact⟨_,_,_,hg⟩
 |iter cs seen cl=>cases hp
def xG{S:bH}{W':World}{B:Nat}(g:Good eT X S)(hb:sa B S.w W')(hp:∀n oc,S.ob n=some oc->plainO oc=true)(hg:∀b∈X.DP,b<B):Good eT X {S with w:=W'} where
 obj n oc h:=⟨(g.obj n oc h).1,OR.l7 (S:=S) (S':={S with w:=W'}) rfl rfl rfl (fun b o v ha hc=>⟨hb.cell hc,ha⟩) (fun b hbm=>let⟨_,_,_,e⟩:=(g.obj n oc h).2.Qe (hp n oc h) b hbm;hb.cells b _ e rfl) (g.obj n oc h).2⟩
 apart:=g.apart
 out:=g.out
 kV:=⟨X.Bl g.kV.1 fun b hbm=>hb.below b (hg b hbm) (X.Gi g.kV.1 b hbm),g.kV.2⟩
def Dt{S0 S:bH}{W':World}{B:Nat}(t:Tr S0 S)(hb:sa B S.w W')(hB:S0.w.heap.size<=B):Tr S0 {S with w:=W'} where
 O:=t.O
 next:=t.next
 os:=hb.os.trans t.os
 output:=hb.output.trans t.output
 size:=b5 t.size hb.size
 own:=t.own
 cell b o v ha hc:=let⟨h1,h2⟩:=t.cell b o v ha hc;⟨hb.cell h1,h2⟩
 block b hlt ho:=(hb.below b (de hlt hB) (de hlt t.size)).trans (t.block b hlt ho)
 loc:=t.loc
 kind:=t.kind
def AW{S:bH}{W':World}{B:Nat}{env:List (Nat×SV)}{a:Act}(h:gz eT S env a)(hb:sa B S.w W'):gz eT {S with w:=W'} env a:=
 fun t sv ht=>dJ.l7 (S:=S) (S':={S with w:=W'}) rfl rfl rfl (fun b o v ha hc=>⟨hb.cell hc,ha⟩) (h t sv ht)
def EX{S:bH}(g:Good eT X S)(hp:∀n oc,S.ob n=some oc->plainO oc=true){k:Nat}{o:Obj}(hk:S.w.heap[k]?=some o)(ho:o.isCells=false):¬S.owns k:=by
 rintro⟨n,oc,h1,h2⟩;obtain⟨vs,T,fz,e⟩:=(g.obj n oc h1).2.Qe (hp n oc h1) k h2;rw[hk]at e;cases e;cases ho
end
def vt:List Ob->List Nat->List Nat->Bool
 |o :: os,n0 :: ns0,n :: ns=>(match lg o o with|true=>bp n n0|false=>true)&&vt os ns0 ns
 |_,_,_=>true
def EY:∀{aO:List Ob} {ν0 ν:List Nat} {i n0 n:Nat} {o:Ob},vt aO ν0 ν=true->aO[i]?=some o->lg o o=true->ν0[i]?=some n0->ν[i]?=some n->n=n0
 |[],_,_,_,_,_,_,_,h,_,_,_=>by simp at h
 |_ :: _,[],_,_,_,_,_,_,_,_,h,_=>by simp at h
 |_ :: _,_ :: _,[],_,_,_,_,_,_,_,_,h=>by simp at h
 |a :: os,m0 :: ns0,m :: ns,0,n0,n,o,h,h1,h2,h3,h4=>by
  simp at h1 h3 h4;subst h1;subst h3;subst h4;simp only[vt,h2,af]at h;exact bz h.1
 |a :: os,m0 :: ns0,m :: ns,i+1,n0,n,o,h,h1,h2,h3,h4=>by
  simp only[vt,af]at h;exact EY h.2 (by simpa using h1) h2 (by simpa using h3) (by simpa using h4)
def Ct(an:jn)(ν0:List Nat)(st st':St)(more:an.X->Prop):VC:=
 match tO st' an with
 |some ν=>match nodupB ν&&(tP st' an ν an.refs&&vt an.aO ν0 ν),eD false st'.aF an.aO ν an.aO ν with
  |true,some y =>.leaf (GX (yj st' an y an.refs++iO an.aO y st'.aF an.aO ν++[∃x',an.inv x'/\more x'/\me st' (an.bK x')/\mf st' (an.aF x'++iy st an.gD)/\(oY ν (po an st x')=true/\y=an.pd x')]))
  |_,_ =>.ff
 |none =>.ff
def Cu{an:jn}{ν0:List Nat}{st st':St}{more:an.X->Prop}(h:(Ct an ν0 st st' more).holds):∃x,an.inv x/\more x/\∃ν,G4 an st st' x ν/\vt an.aO ν0 ν=true:=by
 unfold Ct at h;split at h
 ·rename_i ν _
  split at h
  ·rename_i y hc hy
   simp only[af]at hc;have hall:=uM h;obtain⟨x,h1,h2,h3,h4,h5,h6⟩:=hall (∃x',an.inv x'/\more x'/\me st' (an.bK x')/\mf st' (an.aF x'++iy st an.gD)/\(oY ν (po an st x')=true/\y=an.pd x')) (ej _ (db.2 rfl));subst h6;obtain⟨k1,_⟩:=jh.1 hall;obtain⟨k1,k2⟩:=jh.1 k1;exact⟨x,h1,h2,ν,⟨hc.1,hc.2.1,hy,k1,k2,h3,h4,h5⟩,hc.2.2⟩
  ·exact h.elim
 ·exact h.elim
section
variable{X:Ext}{cx:Cx}
end
structure lG:Type 1 where
 inv:List Nat->Prop
 keep:List Nat
 gD:List Nat:=[]
 gY:List Nat:=[]
 aO:List Ob:=[]
 refs:List (Nat×Nat):=[]
 pd:List Nat->PD aO:=fun _=>Ml aO
def lG.xH(r:lG):jn:={X:=List Nat,inv:=r.inv,bX:=fun _=>0,bK:=fun _=>[],keep:=r.keep,gD:=r.gD,aO:=r.aO,refs:=r.refs,pd:=r.pd}
def Wx(r:lG)(ν0:List Nat)(st:St):List Nat:=mB r.aO r.aO ν0 st.next
def gJ(r:lG)(ν0:List Nat)(st:St)(pre:List Nat):St:=eX r.xH st (Wx r ν0 st) pre
def qM(r:lG)(ν0:List Nat)(st:St)(pre:List Nat):Bool:=pq r.xH st [] pre&&(oq (gJ r ν0 st pre).aF&&(nodupB (Wx r ν0 st)&&jX (st.next+r.aO.length) (Wx r ν0 st)))
def eG{t:Ty}(xs:List (D t))(k i:Nat):List (D t):=(xs.drop (i*k)).take k
def fN(n k:Nat):Nat:=(n+k-1) / k
def ku(a:Option Addr)(n k i:Nat):Value:=.slice (a.map fun p=>{p with off:=p.off+i*k}) (min k (n-i*k)) (min k (n-i*k))
def yz(ps:List Tmp)(asg:Code):Option (Nat×Nat):=
 match ps,asg with
 |[p],.region _ ops false=>match ops.toList with
  |[o]=>match o.dst,o.op,o.guard with
   |some d,.assign (.tmp q),none=>match bp q p with
    |true=>some (p,d)
    |false=>none
   |_,_,_=>none
  |_=>none
 |_,_=>none
def Uu(st:St)(r:lG):lG:={r with keep:=(BM st.env r.keep).filter (fun t=>qE [t] r.refs),gD:=match r.gD with
 |[]=>qD (r.gY++(match tO st r.xH with|some l=>l|none=>[])) st.aF
 |l=>l}
@[reducible] def Lj:Ty:=.slice (.int .u8)
def Gf(an:lG)(ν0:List Nat)(st1:St)(bs:List (D (.int .u8)))(kN p d:Nat)(pre:List Nat)(i:Nat):St:=
 {gJ an ν0 st1 pre with env:=(d,.s (.one (.d Lj (eG bs kN i)))) :: (p,.s (.one (.d Lj (eG bs kN i)))) :: (gJ an ν0 st1 pre).env}
def rK(an:lG)(ν0:List Nat)(st1:St)(K:Ex->St->VC)(pre:List Nat)(i:Nat):Ex->St->VC:=fun e st'=>match e with
 |.normal=>Ct an.xH ν0 st1 {st' with env:=(gJ an ν0 st1 pre).env} fun x=>x=pre++[i]
 |.ret=>match oq st'.aF with
  |true =>.imp (pre=ba i) (K .ret {st' with env:=(gJ an ν0 st1 pre).env})
  |false =>.ff
 |.exit _ =>.ff
def Uv(cx:Cx)(an:lG)(st1:St)(bs:List (D (.int .u8)))(k:Int)(p d:Nat)(body:Code)(K:Ex->St->VC):VC:=
 match tO st1 an.xH with
 |some ν0 =>.both (.leaf (1<=k/\k<=1000000000/\bs.length<=1000000000))
  (.both (Ct an.xH ν0 st1 st1 fun x=>x=[]) (.both (.all (List Nat) fun pre =>.imp (an.inv pre) (match qM an ν0 st1 pre with
    |true =>.all Nat fun i =>.imp (pre.length<fN bs.length k.toNat)
     (vc cx [] body 0 (Gf an ν0 st1 bs k.toNat p d pre i) (rK an ν0 st1 K pre i))
    |false =>.ff))
   (.imp (an.inv (ba (fN bs.length k.toNat))) (K .normal (gJ an ν0 st1 (ba (fN bs.length k.toNat)))))))
 |none =>.ff
def S7(cx:Cx)(it:FuncId)(r:St->lG)(g:Operand)(p d:Nat)(body:Code)(st:St)(K:Ex->St->VC):VC:=
 match dY st.env g with
 |.fn f [n1,n2]=>match bp f it&&!bp n1 n2,look st.aF n1,look st.aF n2 with
  |true,some (.cells _ [.d (.slice (.int .u8)) bs]),some (.cells _ [.d (.int .i64) k])=>
   Uv cx (Uu (bA (bA st n1) n2) (r (bA (bA st n1) n2))) (bA (bA st n1) n2) bs k p d body K
  |_,_,_ =>.ff
 |_ =>.ff
def uh(P:Program)(it:FuncId):Prop:=
 ∀(b1 b2:Nat) (a:Option Addr) (len cap k:Nat) (w:World),1<=k->k<=1000000000->len<=1000000000->len<=cap->(0<len->∃b o,a=some ⟨b,o,none⟩)->b1<w.heap.size->b2<w.heap.size->w.cell? ⟨b1,0,none⟩=some (.slice a len cap)->w.cell? ⟨b2,0,none⟩=some (.int .i64 k)->
  SeqStopsK bd 2 P it #[.pointer (some ⟨b1,0,none⟩),.pointer (some ⟨b2,0,none⟩)] (fun i:Nat =>#[ku a len k i])
   (fun A B=>B.cell? ⟨b1,0,none⟩=A.cell? ⟨b1,0,none⟩/\B.cell? ⟨b2,0,none⟩=A.cell? ⟨b2,0,none⟩) (fun xs=>xs=ba (fN len k)) (fun pre=>∃j,pre=ba j) (fN len k) w
def rl{t:Ty}(xs:List (D t))(k i:Nat):(eG xs k i).length=min k (xs.length-i*k):=by simp[eG]
section
variable{eT:TypeId}{X:Ext}
def S8{bs:List (D (.int .u8))}{A:aH}{w:World}{v:Value}(h:VR eT Lj bs A w v) :
  ∃a cap,v=.slice a bs.length cap/\bs.length<=cap/\(0<bs.length->∃b o,a=some ⟨b,o,none⟩)/\∀k i,VR eT Lj (eG bs k i) A w (ku a bs.length k i):=by
 obtain⟨v',e,hbig,h⟩:=h.one rfl;cases e;rcases h with⟨rfl,a,c,rfl⟩|⟨b,o,cap,rfl,hc,h⟩
 ·refine⟨a,c,rfl,ar _,fun h=>absurd h (Nat.lt_irrefl _),fun k i=>VR.cG rfl ⟨_,rfl,by simp[eG],.inl ⟨by simp[eG],a.map fun p=>{p with off:=p.off+i*k},0,by simp[ku]⟩⟩⟩
 ·refine⟨some ⟨b,o,none⟩,cap,rfl,hc,fun _=>⟨b,o,rfl⟩,fun k i=>VR.cG rfl ⟨_,rfl,by rw[rl];omega,.inr ⟨b,o+i*k,min k (bs.length-i*k),by rw[rl];rfl,by rw[rl];exact ak _,fun j y hj =>?_⟩⟩⟩
  have hj':bs[i*k+j]?=some y:=by
   unfold eG at hj;rw[List.getElem?_take]at hj;split at hj
   ·rwa [List.getElem?_drop]at hj
   ·cases hj
  obtain⟨us,h1,h2⟩:=h _ y hj';refine⟨us,h1,fun m u hm =>?_⟩;have:=h2 m u hm;rw[show o+i*k+j*(Ty.int dm).size+m=o+(i*k+j)*(Ty.int dm).size+m by simp[Ty.size];omega];exact this
end
section
variable{P:Program}{F:Fence}{n:Nat}
def Qf{K:Act->World->Prop}{id:Nat}{ops:Array Oper}{o:Oper}{d q:Nat}(ho:ops.toList=[o])(hd:o.dst=some d)(hop:o.op=.assign (.tmp q))(hg:o.guard=none){a:Act}{w:World}(hF:∀f,F.fn f)
  (h:K (a.put (some d) (a.eval (.tmp q))) w):(Code.region id ops false).wpIn F n P (Exit.then K (fun _ _ _=>False)) a w:=by
 refine wpIn_region_list ?_;rw[ho];unfold wpListIn;rw[if_pos (by simp[Region.wanted,hg])];refine⟨fun f _=>hF f,?_⟩;rw[fq _ _ _ (by simp[hop])];have e:(execOp a.eval o).run P w=.ok (.value (a.eval (.tmp q))) w:=by unfold execOp;rw[hop];rfl
 rw[e];simp only[cr,hd];exact h
end
def J9{ps:List Tmp}{asg:Code}{p d:Nat}(h:yz ps asg=some (p,d)):ps=[p]/\∃id ops o,asg=.region id ops false/\ops.toList=[o]/\o.dst=some d/\o.op=.assign (.tmp p)/\o.guard=none:=by
 unfold yz at h;split at h
 ·split at h
  ·split at h
   ·split at h
    ·cases h
     rename_i hb _;have:=bz hb;subst this;exact⟨rfl,_,_,_,rfl,by assumption,by assumption,by assumption,by assumption⟩
    ·cases h
   ·cases h
  ·cases h
 ·cases h
def Nx(D:Nat):Deferred:={target:=.collected D,args:=#[]}
def yA{a:Act}(h:a.defers=[]):mm [] a=a:=by cases a;simp only at h;subst h;rfl
section
variable{X:Ext}{P:Program}{cx:Cx}
structure Ny (cx:Cx) (X:Ext) (O:aH) (K:St->VC) (S:bH) (a a':Act) (w':World) (D:Nat) (st':St) (loc':Nat->Loc):Prop where
 act:a'=mm [Nx D] a
 vc:(K st').holds
 gK:Good cx.eT X (aB O st' loc' w')
 tr:Tr S (aB O st' loc' w')
 env:gz cx.eT (aB O st' loc' w') st'.env a
 Xs:S.w.heap.size<=D
 mark:w'.heap[D]?=some (.deferred (some []))
 plain:oq st'.aF=true
def QR(cx:Cx)(X:Ext)(O:aH)(K:Ex->St->VC)(S:bH)(a:Act):Exit->Act->World->Prop
 |.normal,a',w'=>∃D st' loc',Ny cx X O (K .normal) S a a' w' D st' loc'
 |.ret,a',w'=>∃D st' loc',Ny cx X O (K .ret) S a a' w' D st' loc'
 |_,_,_=>False
def pJ{st:St}:∀{l:List Nat} {n:Nat} {v:SV},n∈l->look st.env n=some v->look (nB st l) n=some v
 |[],_,_,h,_=>by simp at h
 |t :: r,n,v,h,hv=>by
  simp only[nB];by_cases e:t=n
  ·subst e
   rw[hv];simp only[cE,if_true]
  ·have hn:n∈r:=(ag.1 h).resolve_left fun h=>e h.symm
   cases look st.env t with
   |none=>exact pJ hn hv
   |some u=>simp only[cE,if_neg e];exact pJ hn hv
def S9{an:jn}{st:St}{us:List Nat}{x:an.X}(hs:an.bK x=[])(hnr:qE an.keep an.refs=true){n:Nat}(hn:n∈an.keep){v:SV}(h:look st.env n=some v):look (eX an st us x).env n=some v:=by
 simp only[eX,yk,eL,hs];split
 ·rename_i u hu
  obtain⟨k,hk,_⟩:=qi hu;exact absurd hn (uT hnr hk)
 ·simp only[look]
  exact pJ hn h
def Cv{O:aH}{an:lG}{ν0:List Nat}{st1 st':St}{loc loc':Nat->Loc}{w W:World}{a:Act}{pre:List Nat}(g:Good cx.eT X (aB O st' loc' W))(hsz:a.tmps.size=cx.N)(hdf:a.defers=[])(henv:gz cx.eT (aB O st' loc' W) st'.env a)
  (ht:Tr (aB O st1 loc w) (aB O st' loc' W))(hkeep:∀n∈an.keep,∀v,look st1.env n=some v->∃u,look st'.env n=some u/\n8 u v)(hf:∃ν,G4 an.xH st1 st' pre ν/\vt an.aO ν0 ν=true)(hB:qM an ν0 st1 pre=true) :
  ∃loc2,Good cx.eT X (aB O (gJ an ν0 st1 pre) loc2 W)/\gz cx.eT (aB O (gJ an ν0 st1 pre) loc2 W) (gJ an ν0 st1 pre).env a/\Tr (aB O st1 loc w) (aB O (gJ an ν0 st1 pre) loc2 W):=by
 simp only[qM,af]at hB;obtain⟨h1,_,h3,h4⟩:=hB;obtain⟨ν,hf,hk⟩:=hf;obtain⟨loc2,m1,m2,m3⟩:=D9 (an:=an.xH) (st:=st1) (st':=st') (O:=O) (loc:=loc') (w:=W) (loc0:=loc) (w0:=w) (a:=a) (W:=[]) (ν:=ν) pre h3 pY (fun n hn=>qU h4 hn)
  (fun i m hi=>by
   rcases qG hi with⟨o,o',k1,k2,k3,k4⟩|k
   ·rw[k1]at k2;cases k2
    refine .inr ⟨?_,o,k1,k3⟩;have hl:i<ν.length:=by rw[<-pn hf.get];exact bF k1
    rw[List.getElem?_eq_getElem hl];exact congrArg some (EY hk k1 k3 k4 (List.getElem?_eq_getElem hl))
   ·exact .inl k) g ⟨hsz,hdf,henv⟩ ht h1 hkeep hf
 exact⟨loc2,m1,m2.env,m3⟩
def Ta(hok:lq P cx X){it:FuncId}(hit:uh P it)(heg:∀args w,(callFunc it args).run P w=.ok (.enter it args) w){O:aH}{st:St}{loc:Nat->Loc}{w:World}{a:Act}{K:Ex->St->VC}{g:Operand}{ps:Array Tmp}{asg body:Code}{p d:Nat}
  (r:St->lG)(hsh:yz ps.toList asg=some (p,d))(hsb:kB body=true)(hpN:p<cx.N)(qN:d<cx.N)(hA:fQ cx (aB O st loc w) st a)(gd:Good cx.eT X (aB O st loc w))(hO:eR O w)
  (h:(S7 cx it r g p d body st K).holds):(Code.rangeFunc g ps asg body).wpIn bd 3 P (QR cx X O K (aB O st loc w) a) a w:=by
 obtain⟨hps,id,ops,o,rfl,hops,hdst,hop,hgd⟩:=J9 hsh;unfold S7 at h;split at h
 case h_2=>exact h.elim
 rename_i f n1 n2 hev;split at h
 case h_2=>exact h.elim
 rename_i T1 bs T2 k hb h1 h2;simp only[af,cf]at hb;have hf:=bz hb.1;subst hf;have hne:n1≠n2:=fun e=>by have h3:=hb.2;subst e;rw[Nat.beq_refl]at h3;cases h3
 obtain⟨st1,hst1⟩:∃s,s=bA (bA st n1) n2:=⟨_,rfl⟩
 rw[<-hst1]at h;generalize Uu st1 (r st1)=an at h;unfold Uv at h;split at h
 case h_2=>exact h.elim
 rename_i ν0 _;obtain⟨⟨hk1,hk2,hlen⟩,hfit,hbd,hend⟩:=h;obtain⟨x0,hinv0,hx0,hf0⟩:=Cu hfit;subst hx0;obtain⟨kN,hkN⟩:∃kN:Nat,kN=cc k:=⟨_,rfl⟩
 have hkk:(k:Int)=(kN:Int):=by rw[hkN];exact(ew (b7 (by decide) hk1)).symm
 rw[<-hkN]at hbd hend;have hHB:∀pre,an.inv pre->qM an ν0 st1 pre=true/\∀i,pre.length<fN bs.length kN->(vc cx [] body 0 (Gf an ν0 st1 bs kN p d pre i) (rK an ν0 st1 K pre i)).holds:=by
  intro pre hp;have:=hbd pre hp;split at this
  ·rename_i e;exact⟨e,fun i hi=>this i hi⟩
  ·exact this.elim
 have hx:=bM hA.env g;rw[hev]at hx;obtain⟨hgv,hcap⟩:=hx;obtain⟨b1,vs1,hl1,hbs1,hheap1,hc1⟩:=(gd.obj n1 _ h1).2;obtain⟨b2,vs2,hl2,hbs2,hheap2,hc2⟩:=(gd.obj n2 _ h2).2;cases hc1 with
 |cons hv1 _ hr1=>
 cases hr1;cases hc2 with
 |cons hv2 _ hr2=>
 cases hr2;rename_i v1 _ v2 _;obtain⟨a0,cap,rfl,hcap1,hsome,hpart⟩:=S8 hv1;obtain⟨rfl,_⟩:=cO.1 hv2;have hb1:b1<w.heap.size:=(Array.getElem?_eq_some_iff.1 hheap1).1;have hb2:b2<w.heap.size:=(Array.getElem?_eq_some_iff.1 hheap2).1;have hcell1:w.cell? ⟨b1,0,none⟩=some (.slice a0 bs.length cap):=by rw[cell_of_row w b1 _ _ _ (0,0) hheap1];rfl
 have hcell2:w.cell? ⟨b2,0,none⟩=some (.int .i64 kN):=by rw[cell_of_row w b2 _ _ _ (0,0) hheap2,<-hkk];rfl
 obtain⟨tr1,g1⟩:=mP (cx:=cx) gd n1;obtain⟨tr2,g2⟩:=mP (cx:=cx) g1 n2;rw[<-hst1]at tr2 g2;have trS:=tr1.trans tr2;have hlook:∀n oc,look st1.aF n=some oc->n≠n1/\n≠n2/\look st.aF n=some oc:=by
  intro n oc hn;rw[hst1]at hn;simp only[bA,lR]at hn;split at hn
  ·cases hn
  ·split at hn
   ·cases hn
   ·rename_i e1 e2;exact⟨fun e=>e2 e.symm,fun e=>e1 e.symm,hn⟩
 have hno1:∀{loc' W pre},Tr (aB O st1 loc w) (aB O (gJ an ν0 st1 pre) loc' W)->¬(aB O (gJ an ν0 st1 pre) loc' W).owns b1:=by
  intro loc' W pre t ho;rcases t.own b1 ho with⟨n,oc,k1,k2⟩|k
  ·obtain⟨e1,_,k3⟩:=hlook n oc k1
   exact e1 (gd.apart n n1 oc _ b1 k3 h1 k2 (by show b1∈((aB O st loc w).loc n1).bs;rw[hbs1];simp))
  ·exact absurd hb1 (bc.2 k)
 have hno2:∀{loc' W pre},Tr (aB O st1 loc w) (aB O (gJ an ν0 st1 pre) loc' W)->¬(aB O (gJ an ν0 st1 pre) loc' W).owns b2:=by
  intro loc' W pre t ho;rcases t.own b2 ho with⟨n,oc,k1,k2⟩|k
  ·obtain⟨_,e1,k3⟩:=hlook n oc k1
   exact e1 (gd.apart n n2 oc _ b2 k3 h2 k2 (by show b2∈((aB O st loc w).loc n2).bs;rw[hbs2];simp))
  ·exact absurd hb2 (bc.2 k)
 have hgbs:∀b∈X.DP,b<w.heap.size:=fun b hb=>X.Gi gd.kV.1 b hb
 have hpartW:∀{loc' W pre} (_:Tr (aB O st1 loc w) (aB O (gJ an ν0 st1 pre) loc' W)) i,VR cx.eT Lj (eG bs kN i) (aB O (gJ an ν0 st1 pre) loc' W).A W (ku a0 bs.length kN i):=fun t i=>
  VR.frame (hpart kN i) (trS.trans t).cell
 have hv0:mm [] a=a:=yA hA.defers;have hplainH:∀{pre},qM an ν0 st1 pre=true->oq (gJ an ν0 st1 pre).aF=true:=fun hB=>by simp only[qM,af]at hB;exact hB.2.1
 have hO1:∀{W:World},w.heap.size<=W.heap.size->eR O W:=fun hs=>hO.tr hs
 refine wpIn_rangeFunc_ownG (F:=bd) (n:=3) rfl (by decide) (gf:=f) (lb:=#[.pointer (some ⟨b1,0,none⟩),.pointer (some ⟨b2,0,none⟩)]) (by rw[hgv];simp only[List.map];rw[hl1,hl2]) trivial heg
  (hit b1 b2 a0 bs.length cap kN w (dc.1 (by rw[<-hkk];exact hk1)) (dc.1 (by rw[<-hkk];exact hk2)) hlen hcap1 hsome hb1 hb2 hcell1 hcell2)
  (fun h k=>⟨k.1.trans h.1,k.2.trans h.2⟩)
  (fun W l o o' hl ho hc _=>⟨World.cell?_of_block (fu (by simp only;omega)),World.cell?_of_block (fu (by simp only;omega))⟩)
  (fw _ _) (fun x=>by rw[<-Array.length_toList (xs:=ps),hps];rfl)
  (fun pre W=>∃loc',an.inv pre/\qM an ν0 st1 pre=true/\Good cx.eT X (aB O (gJ an ν0 st1 pre) loc' W)/\gz cx.eT (aB O (gJ an ν0 st1 pre) loc' W) (gJ an ν0 st1 pre).env a/\Tr (aB O st1 loc w) (aB O (gJ an ν0 st1 pre) loc' W))
  (fun c pre W=>c=.ret/\∃st' loc',((∃j,pre=ba j)->(K .ret st').holds)/\oq st'.aF=true/\Good cx.eT X (aB O st' loc' W)/\gz cx.eT (aB O st' loc' W) st'.env a/\Tr (aB O st1 loc w) (aB O st' loc' W))
  ?_ ?_ ?_ (fun x=>(a.put (some p) (ku a0 bs.length kN x)).put (some d) (ku a0 bs.length kN x)) ?_ ?_ ?_ ?_
 ·rintro pre A B row ⟨loc',hi,hB,g',he',t'⟩ hg hr
  have bk:=sa.of hg hr;exact⟨loc',hi,hB,xG g' bk (fun n oc hn=>my (hplainH hB) hn) hgbs,AW he' bk,Dt t' bk (ak _)⟩
 ·rintro c pre A B row ⟨rfl,st',loc',hk,hpl,g',he',t'⟩ hg hr
  have bk:=sa.of hg hr;exact⟨rfl,st',loc',hk,hpl,xG g' bk (fun n oc hn=>my hpl hn) hgbs,AW he' bk,Dt t' bk (ak _)⟩
 ·have hB:=(hHB [] hinv0).1
  obtain⟨loc2,m1,m2,m3⟩:=Cv (an:=an) (pre:=[]) g2 hA.size hA.defers (fun n v hv=>by
   rw[hst1]at hv;exact(hA.env n v hv).tr trS) (Tr.refl _) (fun n _ v hv=>⟨v,hv,jY v⟩) hf0 hB
  exact⟨loc2,hinv0,hB,m1,m2,m3⟩
 ·intro l x W K' hK'
  refine Qf hops hdst hop hgd (fun _=>trivial) ?_;have e:({tmps:=(ps.zip #[ku a0 bs.length kN x]).foldl (fun t (p,v)=>t.setIfInBounds p v) a.tmps,defers:=[]}:Act)=a.put (some p) (ku a0 bs.length kN x):=by
   have:ps= #[p]:=by rw[<-fv (xs:=ps),hps]
   rw[this];refine Eq.trans ?_ (congrArg (fun z:Act=>z.put (some p) (ku a0 bs.length kN x)) hv0);rw[show(#[p]:Array Tmp).zip #[ku a0 bs.length kN x]= #[(p,ku a0 bs.length kN x)] by simp[Array.zip]];rfl
  rw[e];have e2:(a.put (some p) (ku a0 bs.length kN x)).eval (.tmp p)=ku a0 bs.length kN x:=by
   have hp':p<a.tmps.size:=by rw[hA.size];exact hpN
   simp[Act.put,Act.eval,ei,hp']
  rw[e2];exact hK'
 ·rintro l pre x W ⟨loc',hi,hB,g',he',t'⟩ hlt
  have hvc:=(hHB pre hi).2 x hlt;have hpv:=hpartW t' x;have hA1:fQ cx (aB O (gJ an ν0 st1 pre) loc' W) {gJ an ν0 st1 pre with env:=(p,.s (.one (.d Lj (eG bs kN x)))) :: (gJ an ν0 st1 pre).env} (a.put (some p) (ku a0 bs.length kN x)):=
   fQ.put (st:=gJ an ν0 st1 pre) ⟨hA.size,hA.defers,he'⟩ (Tr.refl _) rfl hpN hpv
  have hA2:fQ cx (aB O (gJ an ν0 st1 pre) loc' W) (Gf an ν0 st1 bs kN p d pre x) ((a.put (some p) (ku a0 bs.length kN x)).put (some d) (ku a0 bs.length kN x)):=
   fQ.put hA1 (Tr.refl _) rfl qN hpv
  have hrun:=xF (n:=3-1-1) (st:=Gf an ν0 st1 bs kN p d pre x) hok (F:=bd.inRound l) (.inr ⟨l,rfl⟩) [] body 0 hsb hA2 g' (hO1 t'.size) hvc;rw[yA hA2.defers]at hrun;refine wpIn_mono hrun ?_;rintro e a2 W2 ⟨a',rfl,_,hq⟩;have keeps:∀{st2 loc2},Tr (aB O (gJ an ν0 st1 pre) loc' W) (aB O st2 loc2 W2)->KeepsFrom w.heap.size W W2:=fun k3=>
   ⟨k3.size,fun k o hk hko ho=>(k3.block k (Array.getElem?_eq_some_iff.1 hko).1 (EX g' (fun n oc hn=>my (hplainH hB) hn) hko ho)).trans hko⟩
  cases e with
  |normal=>
   obtain⟨st2,loc2,k1,k2,k3,k4,k5⟩:=hq;obtain⟨x1,i2,hx1,hf1⟩:=Cu k1;subst hx1;have hB2:=(hHB _ i2).1;have hnr:qE an.xH.keep an.xH.refs=true:=by simp only[qM,pq,af]at hB;exact hB.1.2.2.2
   obtain⟨loc2,m1,m2,m3⟩:=Cv (an:=an) (st':={st2 with env:=(gJ an ν0 st1 pre).env}) (pre:=pre++[x]) k2 hA.size hA.defers (he'.tr k3) (t'.trans k3) (fun n hn v hv=>⟨v,S9 (an:=an.xH) rfl hnr hn hv,jY v⟩) hf1 hB2;exact⟨keeps k3,⟨World.cell?_of_block (k3.block b1 (de hb1 t'.size) (hno1 t')),World.cell?_of_block (k3.block b2 (de hb2 t'.size) (hno2 t'))⟩,loc2,i2,hB2,m1,m2,m3⟩
  |ret=>
   obtain⟨st2,loc2,k1,k2,k3,k4,k5⟩:=hq;simp only[rK]at k1;split at k1
   ·rename_i hpl
    exact⟨keeps k3,rfl,_,loc2,fun⟨j,hj⟩=>k1 (by
     cases j with
     |zero=>simp at hj
     |succ j=>
      rw[cq]at hj;obtain⟨e1,e2⟩:=List.append_inj' hj rfl;simp at e2;rw[e2];exact e1),hpl,k2,he'.tr k3,t'.trans k3⟩
   ·exact k1.elim
  |exit i=>obtain⟨_,_,k1,_⟩:=hq;exact k1.elim
  |goto l=>exact hq.elim
  |panic c=>exact hq.elim
  |outgrown=>exact hq.elim
 ·rintro D xs W hD rfl ⟨loc',hi,hB,g',he',t'⟩ hm
  refine⟨D,_,loc',⟨?_,hend hi,g',trS.trans t',he',hD,hm,hplainH hB⟩⟩;rw[hA.defers];rfl
 ·rintro D c pre W hD hsp ⟨rfl,st',loc',hk,hpl,g',he',t'⟩ hm
  refine wpIn_ret ⟨D,st',loc',⟨?_,hk hsp,g',trS.trans t',he',hD,hm,hpl⟩⟩;rw[hA.defers];rfl
end
def Lk(cx:Cx)(it:FuncId)(ra:List (Nat×(St->lG))):Code->St->(Ex->St->VC)->VC
 |.seq a b,st,K=>match kB b with
  |true=>Lk cx it ra a st fun e st'=>match e with
   |.normal=>vc cx [] b 0 st' K
   |e=>K e st'
  |false=>match kB a with
   |true=>vc cx [] a 0 st fun e st'=>match e with
    |.normal=>Lk cx it ra b st' K
    |e=>K e st'
   |false =>.ff
 |.block id (.rangeFunc g ps asg body),st,K=>match yz ps.toList asg,look ra id with
  |some (p,d),some r=>match Nat.blt p cx.N&&(Nat.blt d cx.N&&kB body)with
   |true=>S7 cx it r g p d body st K
   |false =>.ff
  |_,_ =>.ff
 |_,_,_ =>.ff
def Uw(cx:Cx)(it:FuncId)(ra:List (Nat×(St->lG)))(res:List ResultVar)(c:Code)(st:St)(K:List cM->St->VC):VC:=
 Lk cx it ra c st fun e st'=>match e with
  |.exit _ =>.ff
  |_=>match oq st'.aF with
   |true=>qk cx st' res fun vs=>K vs st'
   |false =>.ff
def Xm:Exit->Option Ex
 |.normal=>some .normal
 |.exit n=>some (.exit n)
 |.ret=>some .ret
 |_=>none
def ui(B:Nat)(S:bH)(ds:List Deferred):Prop:=ds=[]\/∃D,ds=[Nx D]/\B<=D/\S.w.heap[D]?=some (.deferred (some []))/\¬S.owns D
section
variable{X:Ext}{P:Program}{cx:Cx}
def ui.tr{B:Nat}{S S':bH}{ds:List Deferred}(h:ui B S ds)(t:Tr S S'):ui B S' ds:=by
 rcases h with h|⟨D,h1,h2,h3,h4⟩
 ·exact .inl h
 ·have hlt:D<S.w.heap.size:=(Array.getElem?_eq_some_iff.1 h3).1
  exact .inr ⟨D,h1,h2,(t.block D hlt h4).trans h3,fun ho=>(t.own D ho).elim h4 fun h=>absurd hlt (bc.2 h)⟩
structure Tb (cx:Cx) (X:Ext) (O:aH) (K:St->VC) (S:bH) (a':Act) (w':World) (ds:List Deferred) (a2:Act) (st':St) (loc':Nat->Loc):Prop where
 act:a'=mm ds a2
 rel:fQ cx (aB O st' loc' w') st' a2
 vc:(K st').holds
 gK:Good cx.eT X (aB O st' loc' w')
 tr:Tr S (aB O st' loc' w')
 marks:ui S.w.heap.size (aB O st' loc' w') ds
def QE(cx:Cx)(X:Ext)(O:aH)(K:Ex->St->VC)(S:bH):Exit->Act->World->Prop:=fun e a' w'=>∃x,Xm e=some x/\∃ds a2 st' loc',Tb cx X O (K x) S a' w' ds a2 st' loc'
def Nz{O:aH}{K:Ex->St->VC}{W:List Nat}{st1:St}{S0 S1:bH}{ds:List Deferred}(t:Tr S0 S1)(hm:ui S0.w.heap.size S1 ds){e:Exit}{a:Act}{w:World}(h:zY ds (jx cx X O K W st1 S1) e a w):QE cx X O K S0 e a w:=by
 obtain⟨a',rfl,hb,hq⟩:=h;cases e with
 |normal=>obtain⟨st',loc',k1,k2,k3,k4,_⟩:=hq;exact⟨_,rfl,ds,a',st',loc',rfl,k4,k1,k2,t.trans k3,hm.tr k3⟩
 |exit i=>obtain⟨st',loc',k1,k2,k3,k4,_⟩:=hq;exact⟨_,rfl,ds,a',st',loc',rfl,k4,k1,k2,t.trans k3,hm.tr k3⟩
 |ret=>obtain⟨st',loc',k1,k2,k3,k4,_⟩:=hq;exact⟨_,rfl,ds,a',st',loc',rfl,k4,k1,k2,t.trans k3,hm.tr k3⟩
 |goto l=>exact hq.elim
 |panic c=>exact hq.elim
 |outgrown=>exact hq.elim
def QE.mono{O:aH}{K:Ex->St->VC}{S0 S1:bH}(t:Tr S0 S1){e:Exit}{a:Act}{w:World}(h:QE cx X O K S1 e a w):QE cx X O K S0 e a w:=by
 obtain⟨x,hx,ds,a2,st',loc',q⟩:=h;refine⟨x,hx,ds,a2,st',loc',q.act,q.rel,q.vc,q.gK,t.trans q.tr,?_⟩;rcases q.marks with h|⟨D,h1,h2,h3⟩
 ·exact .inl h
 ·exact .inr ⟨D,h1,b5 t.size h2,h3⟩
def Qg(hok:lq P cx X){it:FuncId}(hit:uh P it)(heg:∀args w,(callFunc it args).run P w=.ok (.enter it args) w){O:aH}(ra:List (Nat×(St->lG))):∀(c:Code) {st:St} {loc:Nat->Loc} {w:World} {a:Act} {K:Ex->St->VC},
  fQ cx (aB O st loc w) st a->Good cx.eT X (aB O st loc w)->eR O w->(Lk cx it ra c st K).holds->c.wpIn bd 3 P (QE cx X O K (aB O st loc w)) a w:=by
 intro c;induction c with
 |seq c1 c2 ih1 ih2=>
  intro st loc w a K hA g hO h;simp only[Lk]at h;split at h
  ·rename_i hs2
   refine wpIn_seq (wpIn_mono (ih1 hA g hO h) ?_);rintro e a1 w1 ⟨x,hx,ds,a2,st',loc',q⟩;cases e with
   |normal=>
    cases hx;obtain⟨rfl,q2,q3,q4,q5,q6⟩:=q;exact wpIn_mono (xF (n:=3) hok (F:=bd) (.inl rfl) ds c2 0 hs2 q2 q4 (hO.tr q5.size) q3) fun e a w hq=>Nz q5 q6 hq
   |exit i=>cases hx;exact⟨_,rfl,ds,a2,st',loc',q⟩
   |ret=>cases hx;exact⟨_,rfl,ds,a2,st',loc',q⟩
   |goto l=>cases hx
   |panic c=>cases hx
   |outgrown=>cases hx
  ·split at h
   ·rename_i hs1
    have hr:=xF (n:=3) hok (F:=bd) (.inl rfl) [] c1 0 hs1 hA g hO h;rw[yA hA.defers]at hr;refine wpIn_seq (wpIn_mono hr ?_);rintro e a1 w1 hq;cases e with
    |normal=>
     obtain⟨a',rfl,hb,st',loc',k1,k2,k3,k4,_⟩:=hq;show c2.wpIn _ _ _ _ (mm [] a') w1;rw[yA hb];exact wpIn_mono (ih2 k4 k2 (hO.tr k3.size) k1) fun e a w hq=>hq.mono k3
    |exit i=>exact Nz (K:=K) (Tr.refl _) (.inl rfl) hq
    |ret=>exact Nz (K:=K) (Tr.refl _) (.inl rfl) hq
    |goto l=>exact hq.choose_spec.2.2.elim
    |panic c=>exact hq.choose_spec.2.2.elim
    |outgrown=>exact hq.choose_spec.2.2.elim
   ·exact h.elim
 |block id b ih=>
  intro st loc w a K hA g hO h;cases b with
  |rangeFunc gf ps asg body=>
   simp only[Lk]at h;split at h
   ·rename_i p d r hsh _
    split at h
    ·rename_i hb
     simp only[af]at hb;refine wpIn_block (wpIn_mono (Ta hok hit heg r hsh hb.2.2 (mb hb.1) (mb hb.2.1) hA g hO h) ?_);have fin:∀{x:Ex} {a':Act} {w':World},(∃D st' loc',Ny cx X O (K x) (aB O st loc w) a a' w' D st' loc')->∃ds a2 st' loc',Tb cx X O (K x) (aB O st loc w) a' w' ds a2 st' loc':=by
      rintro x a' w' ⟨D,st',loc',q⟩;exact⟨[Nx D],a,st',loc',q.act,⟨hA.size,hA.defers,q.env⟩,q.vc,q.gK,q.tr,.inr ⟨D,rfl,q.Xs,q.mark,EX q.gK (fun n oc hn=>my q.plain hn) q.mark rfl⟩⟩
     intro e a' w' hq;cases e with
     |normal=>exact⟨_,rfl,fin hq⟩
     |ret=>exact⟨_,rfl,fin hq⟩
     |exit i=>exact hq.elim
     |goto l=>exact hq.elim
     |panic c=>exact hq.elim
     |outgrown=>exact hq.elim
    ·exact h.elim
   ·exact h.elim
  |_=>exact h.elim
 |_=>intro st loc w a K hA g hO h;exact h.elim
def Qh(hok:TyOK P cx){O:aH}{st:St}{loc:Nat->Loc}{w:World}{a:Act}(g:Good cx.eT X (aB O st loc w))(he:gz cx.eT (aB O st loc w) st.env a){fn:Func}{K:List cM->VC}(h:(qk cx st fn.results.toList K).holds) :
  ∃vs us,(K vs).holds/\cN cx.eT (aB O st loc w) vs us/\(results fn a.tmps).run P w=.ok (uV us) w:=by
 obtain⟨vs,us,m1,m2,m3⟩:=yW (P:=P) hok g he h;refine⟨vs,us,m1,m2,?_⟩;have hm:(fn.results.mapM (rU a.tmps):Sem (Array Value)).run P w=.ok us.toArray w:=by
  rw[<-fv (xs:=fn.results),List.mapM_toArray,Sem.run_map,m3];rfl
 have he:results fn a.tmps=(do
   let xs <-fn.results.mapM (rU a.tmps)
   return if h:xs.size=1 then xs[0]else .tuple xs):=by
  unfold results;congr 1
 rw[he,Sem.run_bind,hm];simp only[ep,Sem.run_pure]
 match us with
 |[]=>rfl
 |[u]=>rfl
 |_ :: _ :: _=>rfl
def Ih(hok:lq P cx X){it:FuncId}(hit:uh P it)(heg:∀args w,(callFunc it args).run P w=.ok (.enter it args) w){f:FuncId}{fn:Func}{c:Code}(hf:P.funcs[f]?=some fn)(hb:fn.body=some c)(hN:cx.N=fn.ntmps)(ra:List (Nat×(St->lG))){O:aH}{st:St}{loc:Nat->Loc}{w:World}
  {args:Array Value}{K:List cM->St->VC}(hsz:args.size<=fn.ntmps)(g:Good cx.eT X (aB O st loc w))(hO:eR O w)
  (henv:∀t sv,look st.env t=some sv->∃v,args[t]?=some v/\dJ cx.eT (aB O st loc w) sv v)
  (h:(Uw cx it ra fn.results.toList c st K).holds) :
  Calls P f args w fun e w'=>∃vs us st' loc',e=.returned (uV us)/\(K vs st').holds/\cN cx.eT (aB O st' loc' w') vs us/\Good cx.eT X (aB O st' loc' w')/\Tr (aB O st loc w) (aB O st' loc' w'):=by
 refine callsIn_wide.1 (callsIn_of_wp_marks (n:=3) hf hb trivial ?_);have hA:fQ cx (aB O st loc w) st {tmps:=args++Array.replicate (fn.ntmps-args.size) undef,defers:=[]}:=by
  refine⟨by simp[hN];omega,rfl,fun t sv ht =>?_⟩;obtain⟨v,hv,hr⟩:=henv t sv ht;have hlt:t<args.size:=by
   rcases bg t args.size with hh|hh
   ·exact hh
   ·rw[Array.getElem?_eq_none hh]at hv;cases hv
  rw[ei,Array.getElem?_append,if_pos hlt,hv];exact hr
 refine wpIn_mono (Qg hok hit heg ra c hA g hO h) ?_;have fin:∀{a':Act} {w':World} {ds:List Deferred} {a2:Act} {st':St} {loc':Nat->Loc},Tb cx X O (fun st'=>match oq st'.aF with
   |true=>qk cx st' fn.results.toList fun vs=>K vs st'
   |false =>.ff) (aB O st loc w) a' w' ds a2 st' loc'->
   LeavesInM bd 3 P fn a'.tmps (fun e w'=>∃vs us st' loc',e=.returned (uV us)/\(K vs st').holds/\cN cx.eT (aB O st' loc' w') vs us/\Good cx.eT X (aB O st' loc' w')/\Tr (aB O st loc w) (aB O st' loc' w')) a'.defers .returning w':=by
  rintro a' w' ds a2 st' loc' ⟨rfl,q2,q3,q4,q5,q6⟩;split at q3
  case h_2=>exact q3.elim
  rename_i hpl;rcases q6 with rfl|⟨D,rfl,k1,k2,k3⟩
  ·obtain⟨vs,us,m1,m2,m3⟩:=Qh hok.toTyOK q4 q2.env q3
   exact⟨_,m3,vs,us,st',loc',rfl,m1,m2,q4,q5⟩
  ·have bk:sa w.heap.size w' (w'.putObj D (.deferred none)):=sa.of (grownBy_putObj' w' D _) (fun r e=>by cases e;exact⟨k1,_,k2,rfl⟩)
   have g':Good cx.eT X (aB O st' loc' (w'.putObj D (.deferred none))):=xG q4 bk (fun n oc hn=>my hpl hn) (fun b hb=>X.Gi g.kV.1 b hb);have t':Tr (aB O st loc w) (aB O st' loc' (w'.putObj D (.deferred none))):=Dt q5 bk (ak _);have e':gz cx.eT (aB O st' loc' (w'.putObj D (.deferred none))) st'.env a2:=AW q2.env bk;obtain⟨vs,us,m1,m2,m3⟩:=Qh hok.toTyOK g' e' q3;refine⟨by simp,.inl ⟨D,_,rfl,run_takeDeferred k2,?_⟩⟩;exact⟨_,m3,vs,us,st',loc',rfl,m1,m2,g',t'⟩
 rintro e a' w' ⟨x,hx,ds,a2,st',loc',q⟩;cases e with
 |normal=>cases hx;exact fin q
 |ret=>cases hx;exact fin q
 |exit i=>cases hx;exact q.vc.elim
 |goto l=>cases hx
 |panic c=>cases hx
 |outgrown=>cases hx
variable{aO:List Ob}{args:List Cl}
def Du(B:Cx)(Γ:List (FuncId×(Bool×aT)))(it:FuncId)(fn:Func)(ra:List (Nat×(St->lG)))(aO:List Ob)(args:List Cl)(alts:List (Alt aO args))(a:CD args)(x:PD aO):VC:=
 Uw (qT B Γ fn.ntmps) it ra fn.results.toList (codeOf fn) (kA aO args a x) fun vs st'=>sJ a x vs st' alts
def Dv{B:Cx}{Γ:List (FuncId×(Bool×aT))}(hok:bN P B X Γ){it:FuncId}(hit:uh P it){fi:Func}(hfi:P.funcs[it]?=some fi)(hgi:pr fi 3=true){f:FuncId}{fn:Func}(hf:P.funcs[f]?=some fn)(hg:pr fn args.length=true)(ra:CD args->PD aO->List (Nat×(St->lG)))
  {pre:CD args->PD aO->Prop}{alts:List (Alt aO args)}(h:∀a x,gV args a->pre a x->(Du B Γ it fn (ra a x) aO args alts a x).holds) :
  bZ P B.eT X f false (aY aO args pre alts):=by
 simp only[pr,af,cf]at hg hgi;obtain⟨⟨h1,h2⟩,h3⟩:=hg;obtain⟨c,hc⟩:=dj.1 h1;have heg:∀args w,(callFunc it args).run P w=.ok (.enter it args) w:=fun args w=>wz hfi (by obtain⟨ci,hci⟩:=dj.1 hgi.1.1;rw[hci];rfl) hgi.1.2 args w
 refine⟨⟨fn,hf,by rw[hc];rfl,h2⟩,fun O st loc w asg vs K hK g hO ha =>?_⟩;unfold aY at hK;obtain⟨t1,g1,e1,k1⟩:=uZ args asg g;simp only at hK;split at hK
 case h_2=>exact hK.elim
 rename_i ν hν;split at hK
 case h_2=>exact hK.elim
 rename_i a x hnd hga hx;obtain⟨hp,hpre,hK⟩:=Ax hK;obtain⟨hp1,hp2⟩:=jh.1 hp;refine(Ek (f:=f) (B:=B) (pre:=pre) g1 hO (k1 vs ha) hnd hga hx hp1 hp2 hpre hK fun hwf O' loc0 g0 hOin' hargs hlen =>?_).mono ?_
 ·have hcode:codeOf fn=c:=by unfold codeOf;rw[hc];rfl
  have hvc:=h a x hwf hpre;unfold Du at hvc;rw[hcode]at hvc;exact Ih (X:=X) (hok fn.ntmps) hit heg hf hc (by rfl) (ra a x) (O:=O') (loc:=loc0) (w:=w) (args:=vs.toArray) (st:=kA aO args a x)
   (by rw[di,hlen];exact en h3) g0 hOin'
   (fun t sv ht=>by
    obtain⟨_,v,k1,k2⟩:=th 0 hargs t sv ht;exact⟨v,by simpa using k1,k2⟩) hvc
 ·rintro e w' ⟨v,sv,st',loc',q1,q2,q3,q4,q5,q6⟩
  exact⟨v,sv,st',loc',q1,q2,q3.trans e1,(fun hq=>by cases hq),q4,t1.trans q5,q6⟩
end
end Go.Vg

