/- A part of the proof that the law TopFallCard holds of the given program: facts that are used there. -/
import Derived.Test.YtgokjhhcfemnhadGreatDoorPart1
import Derived.Deep.Heap
import Derived.Room.AppendFits
import Derived.Lib.UnsafeStr
import Derived.Lib.SplitLaws
import Derived.Lib.ItoaNum
import Derived.Lib.AtoiAll
import Derived.RangeFuncWrites
import Derived.RangeFuncCalls
import Derived.OrdersIn
import Derived.TacticsIn
import Derived.RangeFuncBox
set_option linter.unusedSimpArgs false
set_option linter.unusedVariables false
set_option linter.defProp false
noncomputable section
open True renaming intro->aa
open Go.Lib renaming itoa->ab,trimSuffix->ae,hasPrefix->av,trimPrefix->ax,decDigits->ay,index->bm,parseUint10->bo,atoiAll->b6,splitK->cn,strCells->ct,strCells_length->dk
open Bool renaming and_eq_true->af,or_eq_true->bq,not_eq_true'->cf,or_eq_false_iff->du,not_eq_true->fh,and_false->fm
open List renaming mem_cons->ag,take->ah,drop->ai,map_cons->aj,mem_append->au,length_append->aw,range->ba,replicate->bb,mem_map->bf,length_take->bh,length->bj,mem_of_getElem?->br,mem_map_of_mem->bw,flatMap_cons->bx,drop_eq_nil_of_le->b3,mem_of_mem_take->b8,all_eq_true->ca,take_length->cb,mem_cons_of_mem->cd,take_of_length_le->cg,nodup_cons->ch,length_cons->cj,filter_cons->ck,isPrefixOf->cm,range_succ->cq,append_assoc->cu,any_eq_true->cw,any_eq_false->cy,all_eq_false->c6,pairwise_cons->c8,length_singleton->da,mem_singleton->db,size_toArray->di,map_map->dn,getElem_of_mem->dw,take_add_one->dx,length_map->ec,cons_append->ee,drop_zero->ef,mem_append_left->eg,mem_filterMap->eh,mem_append_right->ej,mem_range->et,drop_eq_getElem_cons->eu,nil_append->ey,mem_filter->e8,nodup_append->fb,take_succ_cons->fc,take_zero->fk,length_nil->fl,mem_flatMap->fo
open Nat renaming le_refl->ak,zero_le->ar,min->a8,not_lt->bc,lt_or_ge->bg,beq->bp,eq_of_beq_eq_true->bz,le_trans->b5,min_eq_left->c7,lt_of_lt_of_le->de,zero_add->dh,le_of_ble_eq_true->en,strongRecOn->fe,min_eq_right->fp
open Int renaming not_lt->ao,le_refl->az,le_trans->b7,toNat->cc,not_le->cp,ofNat_le->dc,ofNat_inj->dd,toNat_natCast->dv,toNat_of_nonneg->ew,tmod_eq_emod_of_nonneg->ez,le_sub_one_of_lt->fg
open Classical renaming byContradiction->aq,choose->b9,choose_spec->cz
open Go.IntKind renaming u64->a7,u8->dm,min->dp,max->dq,signed->dr,bits->dt,wrap->dT
open Go.Fence renaming wide->bd
open Go.Value renaming int->bt,ownBlock->ft
open Go.Op renaming bytesLess->bu
open BitVec renaming ofInt->b4
open Go.Oper renaming uponIn->cr,semAt_eq->fq
open Option.some renaming injEq->df,inj->dy
open Option renaming isSome_iff_exists->dj,bind_some->fj
open UInt8 renaming lt_iff_toNat_lt->dz,ofNat->ed,toNat_ofNat'->er
open Array renaming getD_eq_getD_getElem?->ei,toArray_toList->fv
open Go.World renaming block_lt_of_cell?->ek,putObj_heap_other->fu
open Go.Builtin renaming append_->eo
open Go.Result renaming andThen_ok->ep
open List.Perm renaming swap->e9
open Go.Region renaming Mode->fs
open Go.RowKit.Below renaming refl->fw
namespace Go.Vg
open Go.RowKit
def kA:List Cl->St->List cO->List cO×St
 |.d _ :: r,st,v :: vs=>match AL st v with
  |(v',st1)=>match kA r st1 vs with
   |(vs',st2)=>(v' :: vs',st2)
 |.obj _ :: r,st,v :: vs=>match kA r st vs with
  |(vs',st2)=>(v :: vs',st2)
 |.ia :: r,st,v :: vs=>match kA r st vs with
  |(vs',st2)=>(v :: vs',st2)
 |_,st,vs=>(vs,st)
def qL:List (Nat×OC)->List Nat->List (Nat×OC)
 |l,[]=>l
 |l,n :: r=>qL (rW l n) r
def mF:List Ob->List Ob->List Nat->Nat->List Nat
 |o :: os,o' :: os',n :: ns,b=>(match lh o o' with|true=>n|false=>b) :: mF os os' ns (b+1)
 |_,_ :: os',_,b=>b :: mF [] os' [] (b+1)
 |_,[],_,_=>[]
def Dx:Nat->List Ob->List Ob->List (Nat×Nat)
 |k,o :: os,o' :: os'=>match lh o o' with
  |true=>(k,k) :: Dx (k+1) os os'
  |false=>Dx (k+1) os os'
 |_,_,_=>[]
def vk:Nat->List Ob->List Ob->List Nat->Bool
 |k,o :: os,o' :: os',n :: ns=>(match lh o o' with|true=>bp n k|false=>true)&&vk (k+1) os os' ns
 |_,_,_,_=>true
structure Alt (aN:List Ob) (args:List Cl):Type 1 where
 cv:Bool:=false
 bO:List Ob
 res:List Cl
 ok:CD args->PD aN->Prop:=fun _ _=>True
 out:CD args->PD aN->PD bO
 ret:CD args->PD aN->CD res
section
variable{aN:List Ob}{args:List Cl}
def GA(al:Alt aN args)(a:CD args)(x:PD aN)(ν:List Nat)(st:St)(K:SV->St->VC):VC:=
 match nodupB (mF aN al.bO ν st.next)&&jX (st.next+al.bO.length) (mF aN al.bO ν st.next)with
 |true =>.imp (al.ok a x) (K (sU (wP (iy al.bO (al.out a x) (mF aN al.bO ν st.next)) al.res (al.ret a x)))
   {env:=st.env,aF:=lU (iy al.bO (al.out a x) (mF aN al.bO ν st.next)) al.bO (al.out a x) (mF aN al.bO ν st.next)++qL st.aF ν,next:=st.next+al.bO.length})
 |false =>.ff
def w5(a:CD args)(x:PD aN)(ν:List Nat)(st:St)(K:SV->St->VC):List (Alt aN args)->VC
 |[] =>.leaf True
 |[al]=>GA al a x ν st K
 |al :: al2 :: r =>.both (GA al a x ν st K) (w5 a x ν st K (al2 :: r))
def aX(aN:List Ob)(args:List Cl)(pre:CD args->PD aN->Prop)(alts:List (Alt aN args)):aT:=fun X0 st K=>
 match kA args st X0 with
 |(X0,st)=>match UN aN args X0 st.aF []with
  |some ν=>match nodupB ν,lV false st.aF aN ν args X0,eL false st.aF aN ν aN ν with
   |true,some a,some x=>SI (mh aN x args X0++iV aN x st.aF aN ν) (.and (pre a x) (w5 a x ν st K alts))
   |_,_,_ =>.ff
  |none =>.ff
def kD(aN:List Ob)(args:List Cl)(a:CD args)(x:PD aN):St:=
 {env:=p8 0 (wP (iy aN x (upto 0 aN.length)) args a),aF:=lU (iy aN x (upto 0 aN.length)) aN x (upto 0 aN.length),next:=aN.length}
def sV(a:CD args)(x:PD aN)(vs:List cO)(st:St):List (Alt aN args)->VC
 |[] =>.ff
 |al :: r=>match kA al.res st vs with
  |(vs',st')=>match UN al.bO al.res vs' st'.aF (Dx 0 aN al.bO)with
   |some ν=>match nodupB ν&&(vk 0 aN al.bO ν&&(!al.cv || (sP aN&&(gH al.bO&&jJ al.res)))),lV al.cv st'.aF al.bO ν al.res vs',eL al.cv st'.aF al.bO ν al.bO ν with
    |true,some b,some y =>.leaf (Hm (mh al.bO y al.res vs'++iV al.bO y st'.aF al.bO ν++[al.ok a x/\y=al.out a x/\b=al.ret a x]))
    |_,_,_=>sV a x vs st r
   |none=>sV a x vs st r
def dA(B:Cx)(Γ:List (FuncId×(Bool×aT)))(fn:Func)(anns:dX)(aN:List Ob)(args:List Cl)(alts:List (Alt aN args))(a:CD args)(x:PD aN):VC:=
 MO (q8 B Γ fn.ntmps) anns fn.results.toList (codeOf fn) (kD aN args a x) fun vs st'=>sV a x vs st' alts
def hU:(cls:List Cl)->CD cls->Prop
 |[],_=>True
 |.d t :: r,x=>wf t x.1/\hU r x.2
 |.obj _ :: r,x=>hU r x
 |.ia :: r,x=>hU r x
end
section
variable{eT:TypeId}{X:Ext}
def q9{k:Nat}:∀{l:List Nat} {n:Nat},jX k l=true->n∈l->n<k
 |[],_,_,h=>by simp at h
 |m :: r,n,h,hn=>by
  simp only[jX,af]at h;rcases ag.1 hn with e|hn
  ·rw[e];exact mg h.1
  ·exact q9 h.2 hn
def my(m:Nat):∀(ns:List Nat) (l:List (Nat×OC)),look (qL l ns) m=if m∈ns then none else look l m
 |[],l=>by simp[qL]
 |n :: r,l=>by
  simp only[qL];rw[my m r,lT];by_cases h1:m∈r
  ·simp[h1]
  ·by_cases h2:n=m
   ·subst h2;simp
   ·have:¬m=n:=fun e=>h2 e.symm
    simp[h1,h2,this]
def qM:∀{aN bO:List Ob} {ν:List Nat} {b i n:Nat},(mF aN bO ν b)[i]?=some n->
  (∃o o',aN[i]?=some o/\bO[i]?=some o'/\lh o o'=true/\ν[i]?=some n)\/b<=n
 |aN,[],ν,b,i,n,h=>by
  cases aN <;> cases ν <;> simp[mF]at h
 |[],o' :: os',ν,b,i,n,h=>by
  simp only[mF]at h;cases i with
  |zero=>simp at h;exact .inr (by omega)
  |succ i=>
   rcases qM (aN:=[]) (ν:=[]) (by simpa using h)with⟨o,_,h1,_⟩|h1
   ·simp at h1
   ·exact .inr (by omega)
 |o :: os,o' :: os',[],b,i,n,h=>by
  simp only[mF]at h;cases i with
  |zero=>simp at h;exact .inr (by omega)
  |succ i=>
   rcases qM (aN:=[]) (ν:=[]) (by simpa using h)with⟨o,_,h1,_⟩|h1
   ·simp at h1
   ·exact .inr (by omega)
 |o :: os,o' :: os',n0 :: ns,b,i,n,h=>by
  simp only[mF]at h;cases i with
  |zero=>
   simp only[List.getElem?_cons_zero,df]at h;split at h
   ·rename_i hk;exact .inl ⟨o,o',rfl,rfl,hk,by simp[h]⟩
   ·exact .inr (by omega)
  |succ i=>
   rcases qM (by simpa using h)with⟨a,a',h1,h2,h3⟩|h1
   ·exact .inl ⟨a,a',by simpa using h1,by simpa using h2,by simpa using h3⟩
   ·exact .inr (by omega)
def p9:∀{aN bO:List Ob} {ν:List Nat} {b:Nat},(mF aN bO ν b).length=bO.length
 |aN,[],ν,b=>by cases aN <;> cases ν <;> rfl
 |[],o' :: os',ν,b=>by simp[mF,p9]
 |o :: os,o' :: os',[],b=>by simp[mF,p9]
 |o :: os,o' :: os',n0 :: ns,b=>by simp[mF,p9]
def Ca:∀{aN bO:List Ob} {ν:List Nat} {k i n:Nat} {o o':Ob},vk k aN bO ν=true->aN[i]?=some o->bO[i]?=some o'->lh o o'=true->ν[i]?=some n->n=k+i
 |[],_,_,_,_,_,_,_,_,h,_,_,_=>by simp at h
 |_ :: _,[],_,_,_,_,_,_,_,_,h,_,_=>by simp at h
 |_ :: _,_ :: _,[],_,_,_,_,_,_,_,_,_,h=>by simp at h
 |a :: os,a' :: os',m :: ns,k,0,n,o,o',h,h1,h2,h3,h4=>by
  simp at h1 h2 h4;subst h1;subst h2;subst h4;simp only[vk,h3,af]at h;have:=bz h.1;omega
 |a :: os,a' :: os',m :: ns,k,i+1,n,o,o',h,h1,h2,h3,h4=>by
  simp only[vk,af]at h;have:=Ca h.2 (by simpa using h1) (by simpa using h2) h3 (by simpa using h4);omega
def EB:∀{l:List Ob} {o:Ob} {t:Ty},sP l=true->o∈l->o≠.tok t
 |[],_,_,_,h=>by simp at h
 |a :: r,o,t,h,ho=>by
  rcases ag.1 ho with e|ho
  ·subst e;intro e;subst e;simp[sP]at h
  ·exact EB (by cases a <;> simp_all [sP]) ho
def yv{S:bI}{F:Nat->Value->Prop}:∀{cls:List Cl} {x:CD cls} {vs:List Value},tz eT S F cls x vs->hU cls x
 |[],_,_,_=>trivial
 |.d t :: r,x,v :: vs,h=>⟨h.1.wf,yv h.2⟩
 |.obj k :: r,x,v :: vs,h=>yv (cls:=r) h.2
 |.ia :: r,x,v :: vs,h=>yv (cls:=r) h.2
def vm{S:bI}{F:Nat->Value->Prop}:∀{cls:List Cl} {x:CD cls} {vs:List Value},tz eT S F cls x vs->vs.length=cls.length
 |[],_,_,h=>by rw[show _=[]from h];rfl
 |.d t :: r,x,v :: vs,h=>by simp[vm h.2]
 |.obj k :: r,x,v :: vs,h=>by simp[vm (cls:=r) h.2]
 |.ia :: r,x,v :: vs,h=>by simp[vm (cls:=r) h.2]
def vo{O:aH}{loc:Nat->Loc}{w:World}:∀(cls:List Cl) (xs:List cO) {st:St},Good eT X (aA O st loc w)->
  Tr (aA O st loc w) (aA O (kA cls st xs).2 loc w)/\Good eT X (aA O (kA cls st xs).2 loc w)/\(kA cls st xs).2.env=st.env/\
   ∀vs,cQ eT (aA O st loc w) xs vs->cQ eT (aA O (kA cls st xs).2 loc w) (kA cls st xs).1 vs:=by
 intro cls;induction cls with
 |nil=>intro xs st g;exact⟨Tr.refl _,g,rfl,fun vs h=>h⟩
 |cons cl r ih=>
  intro xs st g;cases xs with
  |nil=>cases cl <;> exact⟨Tr.refl _,g,rfl,fun vs h=>h⟩
  |cons x xs=>
   cases cl with
   |d t=>
    have g':Good (Cx.mk eT [] [] [] 0 [] [] [] false [] []).eT X (aA O st loc w):=g;obtain⟨t1,g1,e1,k1⟩:=vj g' x;obtain⟨t2,g2,e2,k2⟩:=ih xs g1;refine⟨t1.trans t2,g2,e2.trans e1,fun vs h =>?_⟩;cases h with
    |cons h1 h3=>exact .cons ((k1 _ h1).tr t2) (k2 _ (h3.tr t1))
   |obj k=>
    obtain⟨t2,g2,e2,k2⟩:=ih xs g;refine⟨t2,g2,e2,fun vs h =>?_⟩;cases h with
    |cons h1 h3=>exact .cons (h1.tr t2) (k2 _ h3)
   |ia=>
    obtain⟨t2,g2,e2,k2⟩:=ih xs g;refine⟨t2,g2,e2,fun vs h =>?_⟩;cases h with
    |cons h1 h3=>exact .cons (h1.tr t2) (k2 _ h3)
end
section
variable{X:Ext}{P:Program}{aN:List Ob}{args:List Cl}
def Cb{a:CD args}{x:PD aN}{ν:List Nat}{st:St}{K:SV->St->VC}:∀{alts:List (Alt aN args)},(w5 a x ν st K alts).holds->∀al∈alts,(GA al a x ν st K).holds
 |[],_,al,h=>by simp at h
 |[al0],h,al,ha=>by simp at ha;subst ha;exact h
 |al0 :: al1 :: r,h,al,ha=>by
  rcases ag.1 ha with e|ha
  ·subst e;exact h.1
  ·exact Cb h.2 al ha
def EC{a:CD args}{x:PD aN}{vs:List cO}{st:St}:∀{alts:List (Alt aN args)},(sV a x vs st alts).holds->∃al∈alts,∃ν,
  nodupB ν=true/\vk 0 aN al.bO ν=true/\(al.cv=false\/(sP aN=true/\gH al.bO=true/\jJ al.res=true))/\al.ok a x/\
  lV al.cv (kA al.res st vs).2.aF al.bO ν al.res (kA al.res st vs).1=some (al.ret a x)/\eL al.cv (kA al.res st vs).2.aF al.bO ν al.bO ν=some (al.out a x)/\
  (∀p∈mh al.bO (al.out a x) al.res (kA al.res st vs).1,p)/\(∀p∈iV al.bO (al.out a x) (kA al.res st vs).2.aF al.bO ν,p)
 |[],h=>h.elim
 |al :: r,h=>by
  have rest:(sV a x vs st r).holds->∃al'∈al :: r,∃ν,
    nodupB ν=true/\vk 0 aN al'.bO ν=true/\(al'.cv=false\/(sP aN=true/\gH al'.bO=true/\jJ al'.res=true))/\al'.ok a x/\
    lV al'.cv (kA al'.res st vs).2.aF al'.bO ν al'.res (kA al'.res st vs).1=some (al'.ret a x)/\eL al'.cv (kA al'.res st vs).2.aF al'.bO ν al'.bO ν=some (al'.out a x)/\
    (∀p∈mh al'.bO (al'.out a x) al'.res (kA al'.res st vs).1,p)/\(∀p∈iV al'.bO (al'.out a x) (kA al'.res st vs).2.aF al'.bO ν,p):=fun h=>by
   obtain⟨al',h1,h2⟩:=EC h;exact⟨al',by simp[h1],h2⟩
  simp only[sV]at h;split at h
  ·rename_i ν hν
   split at h
   ·rename_i b y hc hb hy
    simp only[af,bq,cf]at hc;obtain⟨h1,h2,h3⟩:=hc;have hall:=uZ h;have k3:al.ok a x/\y=al.out a x/\b=al.ret a x:=hall _ (ej _ (by simp));obtain⟨k4,k5,k6⟩:=k3;subst k5;subst k6;obtain⟨k1,_⟩:=jo.1 hall;obtain⟨k1,k2⟩:=jo.1 k1;exact⟨al,by simp,ν,h1,h2,h3,k4,hb,hy,k1,k2⟩
   ·exact rest h
  ·exact rest h
def ED{B:Cx}{f:FuncId}{pre:CD args->PD aN->Prop}{alts:List (Alt aN args)}
  {O:aH}{st:St}{loc:Nat->Loc}{w:World}{X0:List cO}{vs:List Value}{K:SV->St->VC}(g:Good B.eT X (aA O st loc w))(hO:eX O w)(ha:cQ B.eT (aA O st loc w) X0 vs)
  {ν:List Nat}{a:CD args}{x:PD aN}(hnd:nodupB ν=true)(hga:lV false st.aF aN ν args X0=some a)(hx:eL false st.aF aN ν aN ν=some x)
  (hp1:∀p∈mh aN x args X0,p)(hp2:∀p∈iV aN x st.aF aN ν,p)(hpre:pre a x)(hK:(w5 a x ν st K alts).holds)
  (hcall:hU args a->∀(O':aH) (loc0:Nat->Loc),Good B.eT X (aA O' (kD aN args a x) loc0 w)->eX O' w->cQ B.eT (aA O' (kD aN args a x) loc0 w) (wP (iy aN x (upto 0 aN.length)) args a) vs->vs.length=args.length->
   Calls P f vs.toArray w fun e w'=>∃rs us' st' locE,e=.returned (vh us')/\(sV a x rs st' alts).holds/\cQ B.eT (aA O' st' locE w') rs us'/\Good B.eT X (aA O' st' locE w')/\Tr (aA O' (kD aN args a x) loc0 w) (aA O' st' locE w')) :
  Calls P f vs.toArray w fun e w'=>∃v sv st' loc',e=.returned v/\(K sv st').holds/\st'.env=st.env/\Good B.eT X (aA O st' loc' w')/\
   Tr (aA O st loc w) (aA O st' loc' w')/\dO B.eT (aA O st' loc' w') sv v:=by
 have hvals:=El g hx hga ha hp1;have hobsl:=pr hx
 let us:=upto 0 aN.length
 have hul:ν.length=us.length:=by rw[u5];exact hobsl.symm
 let O':aH:=fun b off=>O b off\/∃n oc,look st.aF n=some oc/\n∉ν/\b∈(loc n).bs/\oc.lo<=off
 let st0:=kD aN args a x
 have hOin':eX O' w:=by
  rintro b off (h|⟨n,oc,h1,_,h2,_⟩)
  ·exact hO b off h
  ·exact(g.obj n oc h1).2.inside b h2
 have hlo:∀n∈ν,∀oc,look st.aF n=some oc->sP aN=true->oc.lo=0:=by
  intro n hn oc h1 h2;obtain⟨o,oc',y,k1,k2,k3⟩:=mw hx hn;rw[h1]at k2;cases k2;have:=(lL k3 (fun _ =>.any)).2.2.2 (fun t=>EB h2 k1) rfl;cases oc <;> first|rfl|exact(this _ _ rfl).elim
 have hν:∀n∈ν,∃oc,look st.aF n=some oc:=fun n hn=>let⟨_,oc,_,_,k,_⟩:=mw hx hn;⟨oc,k⟩
 let loc0:=fN us (ν.map loc) loc
 have hf0:∀k oc,look st0.aF k=some oc->∃(i n:Nat) (o:Ob) (y:OD o) (oc0:OC),ν[i]?=some n/\us[i]?=some k/\aN[i]?=some o/\look st.aF n=some oc0/\jU false st.aF aN ν o oc0=some y/\oc=q7 (iy aN x us) o y/\loc0 k=loc n:=by
  intro k oc hk;obtain⟨i,n,o,y,oc0,k1,k2,k3,k4,k5,k6,_⟩:=rq hx (rp (X:=X) g hx hx hp2) hul hk;exact⟨i,n,o,y,oc0,k1,k2,k3,k4,k5,k6,kO (kP _ _) k2 (by simp[k1])⟩
 have hA0:∀b o,(aA O' st0 loc0 w).A b o->(aA O st loc w).A b o:=by
  rintro b off ((h|⟨n,oc,h1,_,h2,h3⟩)|⟨k,oc,h1,h2,h3⟩)
  ·exact .inl h
  ·exact .inr ⟨n,oc,h1,h2,h3⟩
  ·obtain⟨i,n,o,y,oc0,_,_,_,k4,k5,k6,k7⟩:=hf0 k oc h1
   refine .inr ⟨n,oc0,k4,by simp only[aA]at h2;rw[k7]at h2;exact h2,?_⟩;rcases Dv (f:=iy aN x us) k5 with e|e
   ·rw[<-e,<-k6];exact h3
   ·cases e
 have hown0:∀b,(aA O' st0 loc0 w).owns b->∃n∈ν,b∈(loc n).bs:=by
  rintro b ⟨k,oc,h1,h2⟩;obtain⟨i,n,o,y,oc0,k1,_,_,_,_,_,k7⟩:=hf0 k oc h1;exact⟨n,br k1,by simp only[aA]at h2;rw[k7]at h2;exact h2⟩
 obtain⟨g0,laid0⟩:=MI (X:=X) g hx hp2 hnd (O2:=O') (ν2:=us) (rest:=[]) (locR:=loc) (st2:=st0) (kP _ _) hul
  (by simp[st0,kD,us]) (fun n hn=>by have:=r7 hn;simp[st0,kD];omega)
  (fun n hn b hb off=>by
   obtain⟨oc,k⟩:=hν n hn;rintro(h|⟨m,oc',h1,h2,h3,_⟩)
   ·exact g.out n oc b off k hb h
   ·exact h2 (by rw[<-g.apart n m oc oc' b k h1 hb h3];exact hn))
  (fun n hn b hb m oc h=>by simp[look]at h) (fun m oc h=>by simp[look]at h) (fun m m' oc oc' b h=>by simp[look]at h) (fun m oc b off h=>by simp[look]at h) (.inr hA0)
  (fun b hb h=>by
   obtain⟨n,hn,hbn⟩:=hown0 b h;obtain⟨oc,k⟩:=hν n hn;exact g.kX.2 b hb ⟨n,oc,k,hbn⟩)
 have hargs:cQ B.eT (aA O' st0 loc0 w) (wP (iy aN x us) args a) vs:=Ho (S:=aA O st loc w) (S':=aA O' st0 loc0 w) rfl (fun k v hk=>BZ laid0 hk) (.inr hA0) hvals;have hcalls:=hcall (yv hvals) O' loc0 g0 hOin' hargs (vm hvals);refine hcalls.mono ?_;rintro e w' ⟨rs,us',st',locE,he,hk,hr,gE',trE'⟩;obtain⟨al,hal,ν',hnd',hkept,hcv,hokal,hret,hout,hc1,hc2⟩:=EC hk;obtain⟨tF,gE,_,kF⟩:=vo al.res rs gE';generalize hst2:(kA al.res st' rs).2=st2 at*;generalize hrs2:(kA al.res st' rs).1=rs2 at*;have trE:=trE'.trans tF;have hrE:=kF us' hr;have hKal:=Cb hK al hal;unfold GA at hKal;split at hKal
 case h_2=>exact hKal.elim
 rename_i hn1;simp only[af]at hn1;obtain⟨hnd1,hbel⟩:=hn1;have hKal:=hKal hokal;generalize hν1:mF aN al.bO ν st.next=ν1 at*;have hl1:ν'.length=ν1.length:=by rw[<-hν1,p9];exact(pr hout).symm
 generalize hst1:({env:=st.env,aF:=lU (iy al.bO (al.out a x) ν1) al.bO (al.out a x) ν1++qL st.aF ν,next:=st.next+al.bO.length}:St)=st1 at hKal;have h1env:st1.env=st.env:=by rw[<-hst1]
 have h1objs:st1.aF=lU (iy al.bO (al.out a x) ν1) al.bO (al.out a x) ν1++qL st.aF ν:=by rw[<-hst1]
 have h1next:st1.next=st.next+al.bO.length:=by rw[<-hst1]
 let loc1:=fN ν1 (ν'.map locE) loc
 have hf1:∀m oc,look st1.aF m=some oc->(∃(i n:Nat) (o:Ob) (y:OD o) (oc0:OC),ν'[i]?=some n/\ν1[i]?=some m/\al.bO[i]?=some o/\look st2.aF n=some oc0/\jU al.cv st2.aF al.bO ν' o oc0=some y/\
   oc=q7 (iy al.bO (al.out a x) ν1) o y/\loc1 m=locE n)\/(m∉ν1/\m∉ν/\look st.aF m=some oc/\loc1 m=loc m):=by
  intro m oc hm;rw[h1objs,eQ]at hm;split at hm
  ·rename_i oc' hm'
   cases hm;obtain⟨i,n,o,y,oc0,k1,k2,k3,k4,k5,k6,_⟩:=rq hout (rp (X:=X) gE hout hout hc2) hl1 hm';exact .inl ⟨i,n,o,y,oc0,k1,k2,k3,k4,k5,k6,kO hnd1 k2 (by simp[k1])⟩
  ·rename_i hm'
   have hnin:m∉ν1:=fun hmem=>by
    obtain⟨oc1,h2⟩:=qG (f:=iy al.bO (al.out a x) ν1) (x:=al.out a x) (by rw[<-hν1,p9]) hmem;rw[h2]at hm';cases hm'
   rw[my]at hm;split at hm
   ·cases hm
   ·rename_i hmn
    exact .inr ⟨hnin,hmn,hm,oX hnin⟩
 have hownE:∀n∈ν',∀b∈(locE n).bs,(aA O' st2 locE w').owns b:=by
  intro n hn b hb;obtain⟨_,oc,_,_,k,_⟩:=mw hout hn;exact⟨n,oc,k,hb⟩
 have hblk:∀m oc,look st.aF m=some oc->m∉ν->∀b∈(loc m).bs,¬(aA O' st0 loc0 w).owns b:=by
  intro m oc h1 h2 b hb' ho;obtain⟨n,hn,hbn⟩:=hown0 b ho;obtain⟨oc',k⟩:=hν n hn;have:=g.apart n m oc' oc b k h1 hbn hb';exact h2 (by rw[<-this];exact hn)
 have hA1:al.cv=false->∀b o,(aA O st1 loc1 w').A b o->(aA O' st2 locE w').A b o:=by
  rintro hcv0 b off (h|⟨m,oc,h1,h2,h3⟩)
  ·exact .inl (.inl h)
  ·rcases hf1 m oc h1 with⟨i,n,o,y,oc0,k1,k2,k3,k4,k5,k6,k7⟩|⟨k1,k2,k3,k4⟩
   ·refine .inr ⟨n,oc0,k4,by simp only[aA]at h2;rw[k7]at h2;exact h2,?_⟩
    rcases Dv (f:=iy al.bO (al.out a x) ν1) k5 with e|e
    ·rw[<-e,<-k6];exact h3
    ·rw[hcv0]at e;cases e
   ·exact .inl (.inr ⟨m,oc,k3,k2,by simp only[aA]at h2;rw[k4]at h2;exact h2,h3⟩)
 have hkeep:∀(m i:Nat),ν1[i]?=some m->m<st.next->∃o o',aN[i]?=some o/\al.bO[i]?=some o'/\lh o o'=true/\ν[i]?=some m:=by
  intro m i h1 h2;rw[<-hν1]at h1;rcases qM h1 with h3|h3
  ·exact h3
  ·omega
 have hT:Tr (aA O st loc w) (aA O st1 loc1 w'):={
  O:=rfl
  next:=by simp only[aA];omega
  os:=trE.os
  output:=trE.output
  size:=trE.size
  own:=by
   rintro b ⟨m,oc,h1,h2⟩;rcases hf1 m oc h1 with⟨i,n,o,y,oc0,k1,k2,k3,k4,k5,k6,k7⟩|⟨k1,k2,k3,k4⟩
   ·simp only[aA]at h2;rw[k7]at h2
    rcases trE.own b (hownE n (br k1) b h2)with h3|h3
    ·obtain⟨n',hn',hb'⟩:=hown0 b h3
     obtain⟨oc',k⟩:=hν n' hn';exact .inl ⟨n',oc',k,hb'⟩
    ·exact .inr h3
   ·simp only[aA]at h2;rw[k4]at h2;exact .inl ⟨m,oc,k3,h2⟩
  cell:=by
   intro b off v hna hcell;obtain⟨h1,h2⟩:=trE.cell b off v (fun h=>hna (hA0 b off h)) hcell;refine⟨h1,fun h3 =>?_⟩;rcases hcv with hcv|⟨hnt,_,_⟩
   ·exact h2 (hA1 hcv b off h3)
   ·rcases h3 with h3|⟨m,oc,h3,h4,h5⟩
    ·exact hna (.inl h3)
    ·rcases hf1 m oc h3 with⟨i,n,o,y,oc0,k1,k2,k3,k4,k5,k6,k7⟩|⟨k1,k2,k3,k4⟩
     ·simp only[aA]at h4;rw[k7]at h4
      rcases trE.own b (hownE n (br k1) b h4)with h6|h6
      ·obtain⟨n',hn',hb'⟩:=hown0 b h6
       obtain⟨oc',k⟩:=hν n' hn';exact hna (.inr ⟨n',oc',k,hb',by rw[hlo n' hn' oc' k hnt];exact ar _⟩)
      ·have:=ek _ _ hcell
       simp only[aA]at this h6;omega
     ·simp only[aA]at h4;rw[k4]at h4;exact hna (.inr ⟨m,oc,k3,h4,h5⟩)
  block:=fun b hb' ho=>trE.block b hb' fun h=>ho (by
   obtain⟨n,hn,hbn⟩:=hown0 b h;obtain⟨oc,k⟩:=hν n hn;exact⟨n,oc,k,hbn⟩)
  loc:=by
   intro m hm hfix;by_cases hin:m∈ν1
   ·obtain⟨i,hi⟩:=List.getElem?_of_mem hin
    obtain⟨o,o',e1,e2,e3,e4⟩:=hkeep m i hi hm;have hiE:i<ν'.length:=by rw[hl1];exact bG hi
    have hn':ν'[i]?=some ν'[i]:=List.getElem?_eq_getElem hiE;have hni:=Ca hkept e1 e2 e3 hn';rw[dh]at hni;have e5:loc1 m=locE i:=by
     have:=kO (d:=loc) hnd1 hi (ls:=ν'.map locE) (l:=locE i) (by simp[hn',hni]);exact this
    have hui:us[i]?=some i:=by have:=AK aN.length 0 i (bG e1);simpa using this
    have e6:loc0 i=loc m:=kO (kP _ _) hui (by simp[e4]);have e7:=trE.loc i (show i<st0.next by simp[st0,kD];exact bG e1) (fun t ys hy=>by
     obtain⟨j,n,o2,y,oc0,k1,k2,k3,k4,k5,k6,k7⟩:=hf0 i _ hy;have hj:j=i:=qH (kP _ _) k2 hui;subst hj;rw[e1]at k3;cases k3;cases o <;> simp[q7]at k6;cases o' <;> simp[lh]at e3)
    show(loc1 m).v=(loc m).v/\(_->loc1 m=loc m);rw[e5,<-e6];refine⟨e7.1,fun hr=>e7.2 fun t z hy =>?_⟩;obtain⟨j,n,o2,y,oc0,k1,k2,k3,k4,k5,k6,k7⟩:=hf0 i _ hy;have hj:j=i:=qH (kP _ _) k2 hui;subst hj;rw[e4]at k1;cases k1;cases o2 <;> simp[q7]at k6;obtain⟨rfl,rfl,_⟩:=k6;obtain⟨z',rfl⟩:=(lL k5 (fun _ =>.any)).2.1 _ _ rfl;exact hr _ _ k4
   ·exact ov (oX hin)
  kind:=by
   intro m oc' hm hob;rcases hf1 m oc' hob with⟨i,n,o,y,oc0,k1,k2,k3,k4,k5,k6,k7⟩|⟨k1,k2,k3,k4⟩
   ·obtain⟨o0,o',e1,e2,e3,e4⟩:=hkeep m i k2 hm
    rw[k3]at e2;cases e2;have hui:us[i]?=some i:=by have:=AK aN.length 0 i (bG e1);simpa using this
    obtain⟨oc2,h2⟩:=qG (f:=iy aN x us) (x:=x) (ms:=us) (by rw[u5]) (br hui);obtain⟨j,n2,o2,y2,oc3,j1,j2,j3,j4,j5,j6,j7⟩:=hf0 i oc2 (by simpa[st0,kD]using h2);have hj:j=i:=qH (kP _ _) j2 hui;subst hj;rw[e1]at j3;cases j3;rw[e4]at j1;cases j1;refine⟨oc3,j4,?_⟩;cases o0 <;> cases o <;> simp[lh]at e3
    ·subst e3
     obtain⟨cs,rfl⟩:=(lL j5 (fun _ =>.any)).1 _ _ rfl;rw[k6];rfl
    ·rename_i kp t kp' t'
     cases kp <;> cases kp' <;> simp at e3;have e3:=Ty.eq_of_beq e3;subst e3;obtain⟨xs,rfl⟩:=(lL j5 (fun _ =>.any)).2.2.1 _ _ rfl rfl;rw[k6];rfl
    ·obtain⟨e3,e4⟩:=e3
     have e4:=Ty.eq_of_beq e4;subst e3;subst e4;obtain⟨z,rfl⟩:=(lL j5 (fun _ =>.any)).2.1 _ _ rfl;rw[k6];exact⟨rfl,rfl⟩
   ·refine⟨oc',k3,?_⟩
    cases oc' <;> simp[aW,aA,k4]}
 obtain⟨g1,laid1⟩:=MI (X:=X) gE hout hc2 hnd' (O2:=O) (ν2:=ν1) (rest:=qL st.aF ν) (locR:=loc) (st2:=st1) hnd1 hl1 h1objs
  (fun n hn=>by rw[h1next];exact q9 hbel hn)
  (fun n hn b hb' off h=>by
   obtain⟨_,oc,_,_,k,_⟩:=mw hout hn;exact gE.out n oc b off k hb' (.inl h))
  (fun n hn b hb' m oc h1 h2 h3=>by
   rw[my]at h1;split at h1
   ·cases h1
   ·rename_i hmn
    rcases trE.own b (hownE n hn b hb')with h4|h4
    ·exact hblk m oc h1 hmn b h3 h4
    ·have:=(g.obj m oc h1).2.inside b h3
     simp only[aA]at this h4;omega)
  (fun m oc h1 h2=>by
   rw[my]at h1;split at h1
   ·cases h1
   ·rename_i hmn
    obtain⟨k1,k2⟩:=g.obj m oc h1;refine⟨by rw[h1next];simp only[aA]at k1;omega,k2.tr hT fun b hb' =>?_⟩;exact trE.block b (k2.inside b hb') (hblk m oc h1 hmn b hb'))
  (fun m m' oc oc' b h1 h2 _ _ h3 h4=>by
   rw[my]at h1 h2;split at h1
   ·cases h1
   ·split at h2
    ·cases h2
    ·exact g.apart m m' oc oc' b h1 h2 h3 h4)
  (fun m oc b off h1 _ h2=>by
   rw[my]at h1;split at h1
   ·cases h1
   ·exact g.out m oc b off h1 h2)
  (by
   rcases hcv with hcv|⟨_,hcv,_⟩
   ·exact .inr (hA1 hcv)
   ·exact .inl hcv)
  (g.kX.tr hT).2
 have hres:=El gE hout hret hrE hc1;refine⟨_,_,st1,loc1,he,hKal,h1env,g1,hT,w4 (Ho (S:=aA O' st2 locE w') (S':=aA O st1 loc1 w') rfl (fun k v hk=>BZ laid1 hk) ?_ hres)⟩;rcases hcv with hcv|⟨_,_,hcv⟩
 ·exact .inr (hA1 hcv)
 ·exact .inl hcv
def SR{B:Cx}{Γ:List (FuncId×(Bool×aT))}(hok:bP P B X Γ){f:FuncId}{fn:Func}{c:Code}(hf:P.funcs[f]?=some fn)(hb:fn.body=some c)(hN:args.length<=fn.ntmps){anns:CD args->PD aN->dX}
  {pre:CD args->PD aN->Prop}{alts:List (Alt aN args)}(h:∀a x,hU args a->pre a x->(dA B Γ fn (anns a x) aN args alts a x).holds)
  {O:aH}{st:St}{loc:Nat->Loc}{w:World}{X0:List cO}{vs:List Value}{K:SV->St->VC}(g:Good B.eT X (aA O st loc w))(hO:eX O w)(ha:cQ B.eT (aA O st loc w) X0 vs)
  {ν:List Nat}{a:CD args}{x:PD aN}(hnd:nodupB ν=true)(hga:lV false st.aF aN ν args X0=some a)(hx:eL false st.aF aN ν aN ν=some x)
  (hp1:∀p∈mh aN x args X0,p)(hp2:∀p∈iV aN x st.aF aN ν,p)(hpre:pre a x)(hK:(w5 a x ν st K alts).holds) :
  Calls P f vs.toArray w fun e w'=>∃v sv st' loc',e=.returned v/\(K sv st').holds/\st'.env=st.env/\Good B.eT X (aA O st' loc' w')/\
   Tr (aA O st loc w) (aA O st' loc' w')/\dO B.eT (aA O st' loc' w') sv v:=by
 refine ED (B:=B) (pre:=pre) g hO ha hnd hga hx hp1 hp2 hpre hK fun hwf O' loc0 g0 hOin' hargs hlen =>?_
 have hcode:codeOf fn=c:=by unfold codeOf;rw[hb];rfl
 have hvc:=h a x hwf hpre;unfold dA at hvc;rw[hcode]at hvc;exact tD (X:=X) (hok fn.ntmps) hf hb (by rfl) (anns a x) (O:=O') (loc:=loc0) (w:=w) (args:=vs.toArray) (st:=kD aN args a x)
  (by rw[di,hlen];exact hN) g0 hOin'
  (fun t sv ht=>by
   obtain⟨_,v,k1,k2⟩:=tE 0 hargs t sv ht;exact⟨v,by simpa using k1,k2⟩) hvc
def bH{B:Cx}{Γ:List (FuncId×(Bool×aT))}(hok:bP P B X Γ){f:FuncId}{fn:Func}(hf:P.funcs[f]?=some fn)(hg:py fn args.length=true)(anns:CD args->PD aN->dX)
  {pre:CD args->PD aN->Prop}{alts:List (Alt aN args)}(h:∀a x,hU args a->pre a x->(dA B Γ fn (anns a x) aN args alts a x).holds) :
  bX P B.eT X f false (aX aN args pre alts):=by
 simp only[py,af,cf]at hg;obtain⟨⟨h1,h2⟩,h3⟩:=hg;obtain⟨c,hc⟩:=dj.1 h1;refine⟨⟨fn,hf,by rw[hc];rfl,h2⟩,fun O st loc w X0 vs K hK g hO ha =>?_⟩;unfold aX at hK;obtain⟨t1,g1,e1,k1⟩:=vo args X0 g;simp only at hK;split at hK
 case h_2=>exact hK.elim
 rename_i ν hν;split at hK
 case h_2=>exact hK.elim
 rename_i a x hnd hga hx;obtain⟨hp,hpre,hK⟩:=AI hK;obtain⟨hp1,hp2⟩:=jo.1 hp;refine(SR hok hf hc (en h3) h g1 hO (k1 vs ha) hnd hga hx hp1 hp2 hpre hK).mono ?_;rintro e w' ⟨v,sv,st',loc',q1,q2,q3,q4,q5,q6⟩;exact⟨v,sv,st',loc',q1,q2,q3.trans e1,(fun hq=>by cases hq),q4,t1.trans q5,q6⟩
end
end Go.Vg

namespace Go.Vg
@[reducible] def aS:Ty:=.prod .str (.prod (.int .i64) (.prod .bool .unit))
@[reducible] def aZ:Ty:=.prod (.int .i64) (.prod (.int .i64) .unit)
@[reducible] def bD:Ty:=.prod (.int .i64) (.prod (.int .i64) (.prod (.int .i64) (.prod .str (.prod .bool .unit))))
@[reducible] def aR:Ty:=.prod (.int .i64) (.prod (.int .i64) (.prod (.int .i64) .unit))
@[reducible] def aG:Ty:=.prod .str (.prod (.int .i64) (.prod (.int .i64) .unit))
@[reducible] def aB:Ty:=.prod (.slice .str) (.prod (.slice (.int .i64)) (.prod (.slice aS) (.prod (.slice bD) .unit)))
@[reducible] def aC:Ty:=.prod .str (.prod (.slice aG) (.prod (.slice aR) .unit))
@[reducible] def bT:Ty:=.prod .str (.prod .str (.prod .str (.prod (.int .i64) (.prod (.int .u64) (.prod aC .unit)))))
@[reducible] def dG:Ty:=.prod .str (.prod (.int .i64) (.prod (.slice (.int .i64)) .unit))
@[reducible] def fG:Ty:=.prod (.int .i64) (.prod .str .unit)
@[reducible] def UP:Ty:=.prod (.slice .str) (.prod (.slice .str) (.prod (.slice fG) (.prod (.int .i64) (.prod .bool .unit))))
theorem bl :
  (∀(p:Prop) [Decidable p],(decide p=true)=p)/\(∀(p:Prop) [Decidable p],(decide p=false)=¬p)/\
  (∀(α:Type) [BEq α] [LawfulBEq α] (a b:α),((a == b)=true)=(a=b))/\(∀(α:Type) [BEq α] [LawfulBEq α] (a b:α),((a == b)=false)=¬a=b)/\
  (∀(α:Type) [BEq α] [LawfulBEq α] (a b:α),((a != b)=true)=¬a=b)/\(∀(α:Type) [BEq α] [LawfulBEq α] (a b:α),((a != b)=false)=(a=b))/\
  (∀b:Bool,((!b)=true)=(b=false))/\(∀b:Bool,((!b)=false)=(b=true))/\(∀b:Bool,(¬b=true)=(b=false))/\(∀b:Bool,(¬b=false)=(b=true))/\
  (∀a b:Bool,((a&&b)=true)=(a=true/\b=true))/\(∀a b:Bool,((a || b)=true)=(a=true\/b=true))/\
  (∀a b:Bool,((a&&b)=false)=(a=false\/b=false))/\(∀a b:Bool,((a || b)=false)=(a=false/\b=false))/\
  (∀a b:Int,(¬a<b)=(b<=a))/\(∀a b:Int,(¬a<=b)=(b<a)):=by
 refine⟨?_,?_,?_,?_,?_,?_,?_,?_,?_,?_,?_,?_,?_,?_,?_,?_⟩ <;> intros <;> first|(simp;done)|(rename_i a b;cases a <;> cases b <;> simp)
end Go.Vg

namespace Go.Vg
open Go.RowKit
def SS{w:World}{b i:Nat}{c:Array Value}{T:TypeId}{v:Value}(hb:w.heap[b]?=some (.cells c T (0,0))):(w.setCell ⟨b,i,none⟩ v).heap[b]?=some (.cells (c.setIfInBounds i v) T (0,0)):=by
 simp[World.setCell,Array.getElem?_modify,hb]
def Vr{P:Program}{w:World}{t u ty e:TypeId}{i:TypeInfo}(ht:P.underlying t=some (.slice e))(hu:P.underlying u=some .string)(hi:P.info? e=some i)(hz:i.zero=some (.int .u8 0))
  (hsize:i.size=1)(hby:i.bytes=1){v:Value}{xs:List Value}(hown:w.ownsRow 0 e 1 v xs.length xs)(hcap:∀a n c,v=.slice (some a) n c->0<c)(s:ByteArray)(hlen:xs.length+s.size<=140737488355328) :
  ∃v' w',(eo #[t,u] ty #[v,.string s]).run P w=.ok v' w'/\w'.ownsRow 0 e 1 v' (xs.length+s.size) (xs++ct s)/\w.grownBy w' v.ownBlock/\(∀a n c,v'=.slice (some a) n c->0<c)/\
   (∀g,v'.ownBlock=some g->v.ownBlock=some g\/w.heap.size<=g):=by
 rcases hown.2 with⟨rfl,h0⟩|⟨g,cap,cur,rfl,hbg,hg,hnc,hcm,hcs,htake⟩
 ·have hown':w.ownsRow w.heap.size e 1 (.slice none 0 0) xs.length xs:=⟨hown.1,.inl ⟨rfl,h0⟩⟩
  obtain⟨v',w',h1,h2,h3,h4⟩:=Lib.run_append_own_string (P:=P) w w.heap.size t u ty e i ht hu hi hz hsize hby _ _ _ hown' s (by unfold maxLen;omega) hlen (ak _);rcases h2.2 with⟨rfl,h6⟩|⟨g,cap,cur,rfl,k1,k2,k3,k4⟩
  ·exact⟨_,w',h1,⟨h2.1,.inl ⟨rfl,h6⟩⟩,h3,(fun a n c hh=>by cases hh),(fun g hh=>by cases hh)⟩
  ·refine⟨_,w',h1,⟨h2.1,.inr ⟨g,cap,cur,rfl,ar _,k2,k3,k4⟩⟩,h3,fun a n c hh =>?_,fun g' hh=>by cases hh;exact .inr k1⟩
   cases hh;by_cases hs:s.size=0
   ·have:=h4.2 ⟨rfl,hs⟩;cases this
   ·omega
 ·have hc0:=hcap _ _ _ rfl
  by_cases hroom:xs.length+s.size<=cap
  ·obtain⟨w',h1,h2,h3⟩:=Lib.run_append_fits_string (P:=P) w 0 t u ty e i ht hu hi hsize _ _ _ _ hown s hc0 hroom
   exact⟨_,w',h1,h2,h3,(fun a n c hh=>by cases hh;exact hc0),(fun g' hh =>.inl hh)⟩
  ·have holds:∀j u,xs[j]?=some u->w.cell? ((⟨g,0,none⟩:Addr).add j)=some u:=hown.cells (g:=g) rfl
   have hr:=Lib.run_append_grow_string (P:=P) w t u ty e i (.int .u8 0) ht hu hi hz ⟨g,0,none⟩ xs.length cap xs (by rw[hsize];simp) holds s (by omega) (by omega) (by rw[hby];exact growslice_fits (by omega) (by omega));have hge:=grownCap_ge w (xs.length+s.size) cap e;have hcm':grownCap w (xs.length+s.size) cap e<=maxLen:=grownCap_le_maxLen w (xs.length+s.size) cap e (by unfold maxLen;omega);refine⟨_,_,hr,⟨by simp[dk],.inr ⟨w.heap.size,_,_,rfl,ar _,heap_alloc_new w.drew _,hge,hcm',?_,?_⟩⟩,⟨rfl,rfl,rfl,by simp,fun k hk _=>Go.Deep.blk_alloc_lt w.drew _ k hk⟩,(fun a n c hh=>by cases hh;omega),(fun g' hh=>by cases hh;exact .inr (ak _))⟩
   ·have hz1:(bt dm 0).cells.size=1:=rfl
    simp only[Array.size_append,di,size_zeroCells,hz1,dk];omega
   ·simp only[Array.toList_append,cu]
    rw[<-cu];have:(xs++ct s).length=(xs.length+s.size)*1:=by simp[dk]
    rw[<-this];exact List.take_left
def yO{P:Program}{w w':World}{ops:Array Oper}{rest:List Oper}{o:Oper}{a:Act}{Q:Exit->Act->World->Prop}(hgd:o.guard=none)(sl x:Operand)(t u:TypeId)
  (ho:o.op=.call {callee:=.builtin .append,args:=#[sl,x],argTypes:=#[t,u]}){v v' y:Value}(hs:a.eval sl=v)(hx:a.eval x=y)
  (hr:(eo #[t,u] o.type #[v,y]).run P w=.ok v' w')(h:wpList P ops Q rest (a.put o.dst v') w'):wpList P ops Q (o :: rest) a w:=by
 refine wpList_plain hgd fun K hK =>?_
 unfold Oper.wp execOp;simp only[ho,resolve,invoke,builtin,Sem.run_bind,Sem.run_pure,ep,List.map_toArray,aj,List.map_nil,hs,hx,hr];exact hK _ _ h
structure Kept (b:Nat) (v:Value) (w w':World):Prop where
 os:w'.os=w.os
 output:w'.output=w.output
 size:w.heap.size<=w'.heap.size
 block:∀k,k<w.heap.size->k≠b->v.ownBlock≠some k->w'.heap[k]?=w.heap[k]?
structure MV (v:Value) (w w':World):Prop where
 os:w'.os=w.os
 output:w'.output=w.output
 size:w'.heap.size=w.heap.size
 block:∀k,v.ownBlock≠some k->w'.heap[k]?=w.heap[k]?
def J9{w:World}{g n c:Nat}{m:Nat}:MV (.slice (some ⟨g,0,none⟩) n c) w (w.drew.freeze ⟨g,0,none⟩ m):=by
 unfold World.freeze;split
 ·exact⟨rfl,rfl,rfl,fun _ _=>rfl⟩
 ·refine⟨rfl,rfl,by simp,fun k hk =>?_⟩
  have:k≠g:=fun e=>hk (by rw[e];rfl)
  simp only[Array.getElem?_modify];rw[if_neg (fun e=>this e.symm)];rfl
def sb(T e:Nat):aT:=fun args st K=>
 match args with
 |[.one (.eW n),.one (.d .str s)]=>match look st.aF n with
  |some (.ext 2 t x)=>match h:Ty.beq t kz with
   |true =>.and ((cJ h x).2.1=(T:Int)/\(cJ h x).2.2.1=(e:Int)/\(cJ h x).1.length+s.length<=140737488355328)
     (K (.mP [.one (.d (.int .i64) (s.length:Int)),.one (.d .err .nil)]) (setObj st n (.ext 2 kz ((cJ h x).1++bE s,(T:Int),(e:Int),()))))
   |false =>.ff
  |_ =>.ff
 |_ =>.ff
def qN(T e:Nat):aT:=fun args st K=>
 match args with
 |[.one (.eW n)]=>match look st.aF n with
  |some (.ext 2 t x)=>match h:Ty.beq t kz with
   |true =>.and ((cJ h x).2.1=(T:Int)/\(cJ h x).2.2.1=(e:Int)) (K (.s (.one (.d .str (bytesOf (cJ h x).1)))) (bA st n))
   |false =>.ff
  |_ =>.ff
 |_ =>.ff
def w6(T e:Nat):aT:=fun args st K=>
 match args with
 |[.one (.eW n)]=>match look st.aF n with
  |some (.ext 2 t x)=>match h:Ty.beq t kz with
   |true =>.and ((cJ h x).2.1=(T:Int)/\(cJ h x).2.2.1=(e:Int)) (K (.s (.one (.d (.int .i64) ((cJ h x).1.length:Int)))) st)
   |false =>.ff
  |_ =>.ff
 |_ =>.ff
section
variable{P:Program}{eT:TypeId}{X:Ext}{f:FuncId}
def Hy{O:aH}{st:St}{loc:Nat->Loc}{w:World}(g:Good eT X (aA O st loc w)){n:Nat}{x:D kz}(hob:look st.aF n=some (.ext 2 kz x)){v:Value}(hv:CR eT (aA O st loc w) (.eW n) v) :
  ∃b p u,v=.pointer (some ⟨b,0,none⟩)/\Wr x (loc n) w b p u:=by
 obtain⟨h0,b,p,u,hD⟩:=X.OO.1 (g.obj n _ hob).2;exact⟨b,p,u,(hv.2 _ hob rfl).trans hD.lv,hD⟩
def vp(s:List UInt8):bytesOf (bE s)=s:=by
 induction s with
 |nil=>rfl
 |cons c r ih=>
  simp only[bytesOf,bE,aj,dn]at ih ⊢;rw[ih];simp
def MW{xs:List Int}(h:∀y∈xs,0<=(y:Int)/\(y:Int)<=255):bE (bytesOf xs)=xs:=by
 induction xs with
 |nil=>rfl
 |cons y r ih=>
  have h1:=h y (by simp);have h2:=ih fun z hz=>h z (by simp[hz])
  simp only[bE,bytesOf,dn,aj]at h2 ⊢;rw[h2];congr 1;simp only[er];omega
def MX(s:List UInt8):∀y∈bE s,0<=(y:Int)/\(y:Int)<=255:=by
 intro y hy;simp only[bE,bf]at hy;obtain⟨c,_,rfl⟩:=hy;have:=c.toNat_lt;omega
def SU{xs:List Int}(h:∀y∈xs,0<=(y:Int)/\(y:Int)<=255):xs.map (bt .u8)=(bytesOf xs).map fun c=>bt .u8 c.toNat:=by
 conv=>lhs;rw[<-MW h]
 simp[bE]
def Cc{T e:Nat}(hfn:∃fn,P.funcs[f]?=some fn/\fn.body.isNone=false/\(fn.name == "runtime.NumGoroutine")=false)
  (H:∀(b:Nat) (p v:Value) (xs:List Value) (s:ByteArray) (w:World),w.heap[b]?=some (.cells #[p,v] T (0,0))->(p=.pointer none\/p=.pointer (some ⟨b,0,none⟩))->w.ownsRow 0 e 1 v xs.length xs->v.ownBlock≠some b->
   (∀a n c,v=.slice (some a) n c->0<c)->xs.length+s.size<=140737488355328->
   Calls P f #[.pointer (some ⟨b,0,none⟩),.string s] w fun r w'=>r=.returned (.tuple #[.int .i64 s.size,.nilIface])/\
    ∃v',w'.heap[b]?=some (.cells #[.pointer (some ⟨b,0,none⟩),v'] T (0,0))/\w'.ownsRow 0 e 1 v' (xs.length+s.size) (xs++ct s)/\v'.ownBlock≠some b/\Kept b v w w'/\
     (∀a n c,v'=.slice (some a) n c->0<c)/\(∀g,v'.ownBlock=some g->v.ownBlock=some g\/w.heap.size<=g)) :
  bX P eT X f false (sb T e):=by
 refine⟨hfn,fun O st loc w args vs K hs g hO ha =>?_⟩;unfold sb at hs;split at hs
 case h_2=>exact hs.elim
 rename_i n s;split at hs
 case h_2=>exact hs.elim
 rename_i t x hob;split at hs
 case h_2=>exact hs.elim
 rename_i ht;have ht':=Ty.eq_of_beq ht;subst ht';rw[jR]at hs;obtain⟨⟨hT,he,hlen⟩,hs⟩:=hs
 match vs,ha with
 |[v0,v1],.cons h0 (.cons h1 .nil)=>
 obtain⟨b,p,u,rfl,hD⟩:=Hy g hob h0;obtain⟨rfl,hsl⟩:=jI.1 (show CR eT _ (.d .str s) v1 from h1);have hsz:(⟨s.toArray⟩:ByteArray).size=s.length:=by simp[ByteArray.size]
 have hT':x.2.1.toNat=T:=by rw[hT];rfl
 have he':x.2.2.1.toNat=e:=by rw[he];rfl
 have hheap:=hD.heap;have hrow:=hD.row;rw[hT']at hheap;rw[he']at hrow;refine(H b p u (x.1.map (bt .u8)) ⟨s.toArray⟩ w hheap hD.ptr (by simpa using hrow) hD.ne hD.cap (by simpa[hsz]using hlen)).mono ?_;rintro r w' ⟨rfl,v',k1,k2,k3,k4,k5,k6⟩;have hlt:b<w.heap.size:=(Array.getElem?_eq_some_iff.1 hheap).1;obtain⟨tr1,g1⟩:=pU (S:=aA O st loc w) (S':=aA O (setObj st n (.ext 2 kz (x.1++bE s,(T:Int),(e:Int),()))) (bU loc n ⟨.pointer (some ⟨b,0,none⟩),b :: v'.ownBlock.toList⟩) w') (n:=n)
  (oc:=.ext 2 kz x) (oc':=.ext 2 kz (x.1++bE s,(T:Int),(e:Int),())) (l':=⟨.pointer (some ⟨b,0,none⟩),b :: v'.ownBlock.toList⟩) g rfl hO hob
  (fun m=>oL st n m _) (fun _=>rfl) rfl (fun _=>⟨hD.lv.symm,fun h=>(h _ _ rfl).elim⟩) ⟨rfl,rfl⟩ k4.os k4.output k4.size
  (fun b' h1 h2=>k4.block b' h1 (fun e=>h2 (by simp only[aA];rw[hD.bs,e];simp)) (fun e=>h2 (by simp only[aA];rw[hD.bs,e];simp)))
  (fun b' o v _ ho=>by simp[OC.lo]at ho)
  (fun b' hb'=>by
   rcases ag.1 hb' with rfl|hb'
   ·exact .inl ⟨by simp only[aA];rw[hD.bs];simp,ak _⟩
   ·have hb':v'.ownBlock=some b':=by simpa using hb'
    rcases k6 b' hb' with h|h
    ·exact .inl ⟨by simp only[aA];rw[hD.bs,h];simp,ak _⟩
    ·exact .inr h)
 have g1:=g1 (X.OO.2 ⟨rfl,b,.pointer (some ⟨b,0,none⟩),v',rfl,.inr rfl,k1,by
  have e1:x.1.map (bt .u8)++ct ⟨s.toArray⟩=(x.1++bE s).map (bt .u8):=by rw[yV,List.map_append]
  have e2:(x.1.map (bt .u8)).length+(⟨s.toArray⟩:ByteArray).size=(x.1++bE s).length:=by simp[hsz,bE]
  rw[e1,e2]at k2;exact k2,rfl,k3,(fun y hy=>by
   rcases au.1 hy with h|h
   ·exact hD.u8 y h
   ·exact MX s y h),k5⟩)
 refine⟨_,_,_,_,rfl,hs,rfl,(fun hh=>by cases hh),g1,tr1,⟨[.int .i64 (⟨s.toArray⟩:ByteArray).size,.nilIface],rfl,.cons ?_ (.cons ?_ .nil)⟩⟩
 ·refine cS.2 ⟨by rw[hsz],?_⟩
  simp only[dp,dq,dr,dt];unfold aM at hsl;constructor <;> simp <;> omega
 ·exact nw.2 rfl
def MY{O:aH}{st:St}{loc:Nat->Loc}{w w':World}(g:Good eT X (aA O st loc w)){n:Nat}{oc0:OC}(hn:look st.aF n=some oc0)(h0:oc0.lo=0)
  (hos:w'.os=w.os)(hout:w'.output=w.output)(hsz:w.heap.size<=w'.heap.size)(hb:∀b,b<w.heap.size->b∉(loc n).bs->w'.heap[b]?=w.heap[b]?) :
  Tr (aA O st loc w) (aA O (bA st n) loc w')/\Good eT X (aA O (bA st n) loc w'):=by
 have hob:∀m oc,look (bA st n).aF m=some oc->m≠n/\look st.aF m=some oc:=by
  intro m oc h;simp only[bA]at h;rw[lT]at h;split at h
  ·cases h
  ·rename_i hne;exact⟨fun e=>hne e.symm,h⟩
 have hA:∀b o,(aA O (bA st n) loc w').A b o->(aA O st loc w).A b o:=by
  rintro b o (h|⟨m,oc,h1,h2⟩)
  ·exact .inl h
  ·exact .inr ⟨m,oc,(hob _ _ h1).2,h2⟩
 have ht:Tr (aA O st loc w) (aA O (bA st n) loc w'):={
  O:=rfl
  next:=ak _
  os:=hos
  output:=hout
  size:=hsz
  own:=fun b h=>by obtain⟨m,oc,h1,h2⟩:=h;exact .inl ⟨m,oc,(hob _ _ h1).2,h2⟩
  cell:=fun b o v h1 h2=>by
   have hlt:=ek w _ h2;refine⟨?_,fun h=>h1 (hA b o h)⟩;show w'.cell? _=_;rw[World.cell?_of_block (w:=w) (w':=w') (a:=⟨b,o,none⟩) (hb b hlt fun hm=>h1 (.inr ⟨n,oc0,hn,hm,by rw[h0];exact ar _⟩))];exact h2
  block:=fun b h1 h2=>hb b h1 fun hm=>h2 ⟨n,oc0,hn,hm⟩
  loc:=fun _ _ _=>ov rfl
  kind:=fun m oc _ h=>⟨oc,(hob _ _ h).2,by cases oc <;> simp[aW,aA]⟩}
 refine⟨ht,⟨fun m oc h =>?_,fun m1 m2 oc1 oc2 b h1 h2 h3 h4 =>?_,fun m oc b off h1 h2 =>?_,g.kX.tr ht⟩⟩
 ·obtain⟨hne,h⟩:=hob _ _ h
  obtain⟨h1,h2⟩:=g.obj m oc h;exact⟨h1,h2.tr ht fun b hbm=>hb b (h2.inside b hbm) fun hbn=>hne (g.apart m n oc oc0 b h hn hbm hbn)⟩
 ·exact g.apart m1 m2 oc1 oc2 b (hob _ _ h1).2 (hob _ _ h2).2 h3 h4
 ·exact g.out m oc b off (hob _ _ h1).2 h2
def AM{T e:Nat}(hfn:∃fn,P.funcs[f]?=some fn/\fn.body.isNone=false/\(fn.name == "runtime.NumGoroutine")=false)
  (H:∀(b:Nat) (p v:Value) (l:List UInt8) (w:World),w.heap[b]?=some (.cells #[p,v] T (0,0))->w.ownsRow 0 e 1 v l.length (l.map fun c=>bt .u8 c.toNat)->(∀a n c,v=.slice (some a) n c->0<c)->
   Calls P f #[.pointer (some ⟨b,0,none⟩)] w fun r w'=>r=.returned (.string ⟨l.toArray⟩)/\MV v w w') :
  bX P eT X f false (qN T e):=by
 refine⟨hfn,fun O st loc w args vs K hs g hO ha =>?_⟩;unfold qN at hs;split at hs
 case h_2=>exact hs.elim
 rename_i n;split at hs
 case h_2=>exact hs.elim
 rename_i t x hob;split at hs
 case h_2=>exact hs.elim
 rename_i ht;have ht':=Ty.eq_of_beq ht;subst ht';rw[jR]at hs;obtain⟨⟨hT,he⟩,hs⟩:=hs
 match vs,ha with
 |[v0],.cons h0 .nil=>
 obtain⟨b,p,u,rfl,hD⟩:=Hy g hob h0;have hT':x.2.1.toNat=T:=by rw[hT];rfl
 have he':x.2.2.1.toNat=e:=by rw[he];rfl
 have hheap:=hD.heap;have hrow:=hD.row;rw[hT']at hheap;rw[he',SU hD.u8,show x.1.length=(bytesOf x.1).length by simp[bytesOf]]at hrow;refine(H b p u (bytesOf x.1) w hheap hrow hD.cap).mono ?_;rintro r w' ⟨rfl,k⟩;obtain⟨tr1,g1⟩:=MY (w':=w') g hob rfl k.os k.output (by rw[k.size];exact ak _) (fun b' _ h2=>k.block b' fun e=>h2 (by rw[hD.bs,e];simp));refine⟨_,_,_,_,rfl,hs,rfl,(fun hh=>by cases hh),g1,tr1,?_⟩;refine(jI (eT:=eT) (S:=aA O (bA st n) loc w')).2 ⟨rfl,?_⟩;rcases hrow.2 with⟨_,h⟩|⟨_,cap,_,_,_,_,h1,h2,_⟩
 ·rw[h];exact ar _
 ·unfold maxLen at h2;unfold aM;omega
def Gg{T e:Nat}(hfn:∃fn,P.funcs[f]?=some fn/\fn.body.isNone=false/\(fn.name == "runtime.NumGoroutine")=false)
  (H:∀(b:Nat) (p q:Value) (a:Option Addr) (n c:Nat) (w:World),w.heap[b]?=some (.cells #[p,.slice a n c] T (0,0))->
   Calls P f #[.pointer (some ⟨b,0,none⟩)] w fun r w'=>r=.returned (.int .i64 n)/\w'=w) :
  bX P eT X f true (w6 T e):=by
 refine⟨hfn,fun O st loc w args vs K hs g hO ha =>?_⟩;unfold w6 at hs;split at hs
 case h_2=>exact hs.elim
 rename_i n;split at hs
 case h_2=>exact hs.elim
 rename_i t x hob;split at hs
 case h_2=>exact hs.elim
 rename_i ht;have ht':=Ty.eq_of_beq ht;subst ht';rw[jR]at hs;obtain⟨⟨hT,he⟩,hs⟩:=hs
 match vs,ha with
 |[v0],.cons h0 .nil=>
 obtain⟨b,p,u,rfl,hD⟩:=Hy g hob h0;have hT':x.2.1.toNat=T:=by rw[hT];rfl
 have hheap:=hD.heap;rw[hT']at hheap;obtain⟨a,c,rfl,hl⟩:∃a c,u=.slice a x.1.length c/\x.1.length<=aM:=by
  rcases hD.row.2 with⟨rfl,h⟩|⟨g',cap,cur,h,_,_,h1,h2,_⟩
  ·exact⟨none,0,by rw[h],by rw[h];exact ar _⟩
  ·exact⟨_,_,h,by unfold maxLen at h2;unfold aM;omega⟩
 refine(H b p p a x.1.length c w hheap).mono ?_;rintro r w' ⟨rfl,rfl⟩;refine⟨_,_,_,loc,rfl,hs,rfl,fun _=>Below.refl _ _,g,Tr.refl _,?_⟩;refine(cS (eT:=eT) (S:=aA O st loc w')).2 ⟨rfl,?_⟩;unfold aM at hl;simp only[dp,dq,dr,dt];constructor <;> simp <;> omega
end
end Go.Vg

namespace Go.Mrl
open Go.Vg
def small(c:UInt8):Bool:=decide ((97:Int)<=c.toNat)&&decide ((c.toNat:Int)<=122)
def other(c:UInt8):Bool:=(decide ((48:Int)<=c.toNat)&&decide ((c.toNat:Int)<=57)) || ((c.toNat:Int) == 95)
def ko(i:Nat)(c:UInt8):Bool:=!small c&&((i:Int) == 0 || !other c)
def ui(s:List UInt8):Bool:=(ba s.length).any fun i=>ko i (dW s i)
def aP(s:List UInt8):Int:=if s.length<1\/8<s.length then 1 else if ui s=true then 3 else 0
def aI(n:Int):aK:=if n=0 then .nil else .no n
def yw:aK->Int->Bool
 |.nil,n=>n == 0
 |.no m,n=>decide (n > 0)&&m == n
 |.other,_=>false
def jq:aK->Int
 |.nil=>0
 |.no m=>m
 |.other =>-1
def fA(s:List UInt8):0<=aP s:=by
 unfold aP;split
 ·decide
 ·split <;> decide
def Ka{s:List UInt8}{i:Nat}(h:i<s.length)(hb:ko i (dW s i)=true):ui s=true:=by
 simp only[ui,cw,et];exact⟨i,h,hb⟩
def Hz{s:List UInt8}(h:∀i,i<s.length->ko i (dW s i)=false):ui s=false:=by
 simp only[ui,cy,et];intro i hi;rw[h i hi];simp
def Gh{s:List UInt8}(h:s.length<1\/8<s.length):aP s=1:=by unfold aP;rw[if_pos h]
def Cd{s:List UInt8}{i:Nat}(h:¬(s.length<1\/8<s.length))(hi:i<s.length)(hb:ko i (dW s i)=true):aP s=3:=by
 unfold aP;rw[if_neg h,if_pos (Ka hi hb)]
def Dy{s:List UInt8}(h:¬(s.length<1\/8<s.length))(hb:∀i,i<s.length->ko i (dW s i)=false):aP s=0:=by
 unfold aP;rw[if_neg h,if_neg (by rw[Hz hb];decide)]
def EE{i:Nat}{c:UInt8}:ko i c=true↔¬(97<=c.toNat/\c.toNat<=122)/\(i=0\/¬((48<=c.toNat/\c.toNat<=57)\/c.toNat=95)):=by
 simp only[ko,small,other,af,cf,Bool.and_eq_false_iff,bq,du,decide_eq_false_iff_not,beq_iff_eq,beq_eq_false_iff_ne];omega
def Kb{i:Nat}{c:UInt8}:ko i c=false↔¬(¬(97<=c.toNat/\c.toNat<=122)/\(i=0\/¬((48<=c.toNat/\c.toNat<=57)\/c.toNat=95))):=by
 rw[<-EE];simp
def SW{s:List UInt8}{i:Nat}(h:∀j,j<i->ko j (dW s j)=false)(hb:ko i (dW s i)=false):∀j,j<i+1->ko j (dW s j)=false:=by
 intro j hj;rcases bg j i with hlt|hge
 ·exact h j hlt
 ·obtain rfl:j=i:=by omega
  exact hb
def il(p:D aS->Prop)(l:List (D aB))(i k:Nat):Prop:=
 i<l.length/\k<(nth aB l i).2.2.1.length/\p (nth aS (nth aB l i).2.2.1 k)
def zD(s:List UInt8)(x:D aS):Prop:=x.1=s
def nG(s:List UInt8)(x:D aS):Prop:=x.1=s/\x.2.2.1=false
def ahead(i k i' k':Nat):Prop:=i<i'\/(i=i'/\k<k')
def w7(p:D aS->Prop)(l:List (D aB))(i k:Nat):Prop:=∀i' k',ahead i' k' i k->¬il p l i' k'
def ml(p:D aS->Prop)(l:List (D aB))(i k:Nat):Prop:=il p l i k/\w7 p l i k
def w8{p:D aS->Prop}{l:List (D aB)}{i k i' k':Nat}(h:ml p l i k)(h':ml p l i' k'):i=i'/\k=k':=by
 have h1:¬ahead i k i' k':=fun a=>h'.2 i k a h.1
 have h2:¬ahead i' k' i k:=fun a=>h.2 i' k' a h'.1
 unfold ahead at h1 h2;omega
def w9{p:D aS->Prop}{l:List (D aB)}{i k:Nat}(h:il p l i k):∃i k,ml p l i k:=by
 have hi:∀n,∀i,i<=n->∀k,il p l i k->∃i,(∃k,il p l i k)/\∀j,j<i->∀k,¬il p l j k:=by
  intro n;induction n with
  |zero=>intro i hi k h;exact⟨i,⟨k,h⟩,fun j hj=>by omega⟩
  |succ n ih=>
   intro i hi k h;by_cases c:∃j,j<i/\∃k,il p l j k
   ·obtain⟨j,hj,k,hk⟩:=c
    exact ih j (by omega) k hk
   ·exact⟨i,⟨k,h⟩,fun j hj k hk=>c ⟨j,hj,k,hk⟩⟩
 obtain⟨i0,⟨k0,h0⟩,hmin⟩:=hi i i (ak _) k h;have hk:∀n,∀k,k<=n->il p l i0 k->∃k,il p l i0 k/\∀j,j<k->¬il p l i0 j:=by
  intro n;induction n with
  |zero=>intro k hk h;exact⟨k,h,fun j hj=>by omega⟩
  |succ n ih=>
   intro k hk h;by_cases c:∃j,j<k/\il p l i0 j
   ·obtain⟨j,hj,h2⟩:=c
    exact ih j (by omega) h2
   ·exact⟨k,h,fun j hj h2=>c ⟨j,hj,h2⟩⟩
 obtain⟨k1,h1,h2⟩:=hk k0 k0 (ak _) h0;refine⟨i0,k1,h1,fun i' k' ha hp =>?_⟩;rcases ha with ha|⟨rfl,ha⟩
 ·exact hmin i' ha k' hp
 ·exact h2 k' ha hp
open Classical in
def eH(x:List (D aB)×List UInt8):Int×Int:=
 if h:∃p:Nat×Nat,ml (nG x.2) x.1 p.1 p.2 then(((b9 h).1:Nat),((b9 h).2:Nat))
 else if h:∃p:Nat×Nat,ml (zD x.2) x.1 p.1 p.2 then(((b9 h).1:Nat),((b9 h).2:Nat))
 else(-1,-1)
def xa{l:List (D aB)}{s:List UInt8}{i k:Nat}(h:ml (nG s) l i k):eH (l,s)=((i:Int),(k:Int)):=by
 have hx:∃p:Nat×Nat,ml (nG s) l p.1 p.2:=⟨(i,k),h⟩
 unfold eH;rw[dif_pos hx];have:=w8 h (cz hx);rw[<-this.1,<-this.2]
def Ce{l:List (D aB)}{s:List UInt8}{i k:Nat}(hn:∀i k,¬il (nG s) l i k)(h:ml (zD s) l i k):eH (l,s)=((i:Int),(k:Int)):=by
 have hx:∃p:Nat×Nat,ml (zD s) l p.1 p.2:=⟨(i,k),h⟩
 unfold eH;rw[dif_neg (fun⟨p,h⟩=>hn p.1 p.2 h.1),dif_pos hx];have:=w8 h (cz hx);rw[<-this.1,<-this.2]
def Cf{l:List (D aB)}{s:List UInt8}(hn:∀i k,¬il (zD s) l i k):eH (l,s)=(-1,-1):=by
 unfold eH;rw[dif_neg (fun⟨p,h⟩=>hn p.1 p.2 ⟨h.1.1,h.1.2.1,h.1.2.2.1⟩),dif_neg (fun⟨p,h⟩=>hn p.1 p.2 h.1)]
def Kc(l:List (D aB))(s:List UInt8):(∃i k:Nat,eH (l,s)=((i:Int),(k:Int))/\ml (nG s) l i k)\/
  (∃i k:Nat,eH (l,s)=((i:Int),(k:Int))/\ml (zD s) l i k/\∀i k,¬il (nG s) l i k)\/
  (eH (l,s)=(-1,-1)/\∀i k,¬il (zD s) l i k):=by
 by_cases h1:∃i k,il (nG s) l i k
 ·obtain⟨i,k,h⟩:=h1
  obtain⟨i,k,h⟩:=w9 h;exact .inl ⟨i,k,xa h,h⟩
 ·have h1':∀i k,¬il (nG s) l i k:=fun i k h=>h1 ⟨i,k,h⟩
  by_cases h2:∃i k,il (zD s) l i k
  ·obtain⟨i,k,h⟩:=h2
   obtain⟨i,k,h⟩:=w9 h;exact .inr (.inl ⟨i,k,Ce h1' h,h,h1'⟩)
  ·have h2':∀i k,¬il (zD s) l i k:=fun i k h=>h2 ⟨i,k,h⟩
   exact .inr (.inr ⟨Cf h2',h2'⟩)
def jd(l:List (D aB))(s:List UInt8)(i k:Nat)(a b:Int):Prop:=
 w7 (nG s) l i k/\((a= -1/\b= -1/\w7 (zD s) l i k)\/∃i0 k0:Nat,a=i0/\b=k0/\ml (zD s) l i0 k0)
def jd.start(l:List (D aB))(s:List UInt8):jd l s 0 0 (-1) (-1):=
 ⟨fun i' k' h=>by unfold ahead at h;omega,.inl ⟨rfl,rfl,fun i' k' h=>by unfold ahead at h;omega⟩⟩
def w7.next{p:D aS->Prop}{l:List (D aB)}{i k:Nat}(h:w7 p l i k)(hn:¬il p l i k):w7 p l i (k+1):=by
 intro i' k' ha hp;by_cases e:i'=i/\k'=k
 ·rw[e.1,e.2]at hp;exact hn hp
 ·exact h i' k' (by unfold ahead at*;omega) hp
def jd.skip{l:List (D aB)}{s:List UInt8}{i k:Nat}{a b:Int}(h:jd l s i k a b)(hn:¬(nth aS (nth aB l i).2.2.1 k).1=s):jd l s i (k+1) a b:=by
 refine⟨h.1.next fun hp=>hn hp.2.2.1,?_⟩;rcases h.2 with⟨h1,h2,h3⟩|h3
 ·exact .inl ⟨h1,h2,h3.next fun hp=>hn hp.2.2⟩
 ·exact .inr h3
def jd.WS{l:List (D aB)}{s:List UInt8}{i k:Nat}{a b:Int}(h:jd l s i k a b)(hi:i<l.length)(hk:k<(nth aB l i).2.2.1.length)
  (hs:(nth aS (nth aB l i).2.2.1 k).1=s)(hw:(nth aS (nth aB l i).2.2.1 k).2.2.1=false):eH (l,s)=((i:Int),(k:Int)):=
 xa ⟨⟨hi,hk,hs,hw⟩,h.1⟩
def jd.Ds{l:List (D aB)}{s:List UInt8}{i k:Nat}{a b:Int}(h:jd l s i k a b)(hi:i<l.length)(hk:k<(nth aB l i).2.2.1.length)
  (hs:(nth aS (nth aB l i).2.2.1 k).1=s)(hw:¬(nth aS (nth aB l i).2.2.1 k).2.2.1=false)(ha:a<0):jd l s i (k+1) (i:Int) (k:Int):=by
 refine⟨h.1.next fun hp=>hw hp.2.2.2,.inr ⟨i,k,rfl,rfl,⟨hi,hk,hs⟩,?_⟩⟩;rcases h.2 with⟨_,_,h3⟩|⟨i0,k0,h1,_⟩
 ·exact h3
 ·omega
def jd.more{l:List (D aB)}{s:List UInt8}{i k:Nat}{a b:Int}(h:jd l s i k a b)
  (hw:¬(nth aS (nth aB l i).2.2.1 k).2.2.1=false)(ha:¬a<0):jd l s i (k+1) a b:=by
 refine⟨h.1.next fun hp=>hw hp.2.2.2,?_⟩;rcases h.2 with⟨h1,_,_⟩|h3
 ·omega
 ·exact .inr h3
def w7.row{p:D aS->Prop}{l:List (D aB)}{i k:Nat}(h:w7 p l i k)(hk:(nth aB l i).2.2.1.length<=k):w7 p l (i+1) 0:=by
 intro i' k' ha hp;refine h i' k' ?_ hp;unfold ahead at*;by_cases e:i'=i
 ·subst e;have:=hp.2.1;omega
 ·omega
def jd.row{l:List (D aB)}{s:List UInt8}{i k:Nat}{a b:Int}(h:jd l s i k a b)(hk:(nth aB l i).2.2.1.length<=k):jd l s (i+1) 0 a b:=by
 refine⟨h.1.row hk,?_⟩;rcases h.2 with⟨h1,h2,h3⟩|h3
 ·exact .inl ⟨h1,h2,h3.row hk⟩
 ·exact .inr h3
def w7.all{p:D aS->Prop}{l:List (D aB)}{i k:Nat}(h:w7 p l i k)(hi:l.length<=i):∀i k,¬il p l i k:=
 fun i' k' hp=>h i' k' (by have:=hp.1;unfold ahead;omega) hp
def jd.done{l:List (D aB)}{s:List UInt8}{i k:Nat}{a b:Int}(h:jd l s i k a b)(hi:l.length<=i):eH (l,s)=(a,b):=by
 rcases h.2 with⟨rfl,rfl,h3⟩|⟨i0,k0,rfl,rfl,h3⟩
 ·exact Cf (h3.all hi)
 ·exact Ce (h.1.all hi) h3
def lY{p:Nat->Prop}{n:Nat}(h:∀j,j<n->p j)(hn:p n):∀j,j<n+1->p j:=by
 intro j hj;by_cases e:j=n
 ·rw[e];exact hn
 ·exact h j (by omega)
def yx{l:List (D aB)}{s:List UInt8}(h:0<=(eH (l,s)).1):(eH (l,s)).1<l.length/\0<=(eH (l,s)).2/\(eH (l,s)).2<(nth aB l (eH (l,s)).1.toNat).2.2.1.length/\
  (nth aS (nth aB l (eH (l,s)).1.toNat).2.2.1 (eH (l,s)).2.toNat).1=s:=by
 rcases Kc l s with⟨i0,k0,e,f⟩|⟨i0,k0,e,f,n⟩|⟨e,n⟩
 ·rw[e];obtain⟨h1,h2,h3⟩:=f.1;exact⟨by simp only;omega,by simp only;omega,by simp only[dv];omega,h3.1⟩
 ·rw[e];obtain⟨h1,h2,h3⟩:=f.1;exact⟨by simp only;omega,by simp only;omega,by simp only[dv];omega,h3⟩
 ·rw[e]at h;simp at h
end Go.Mrl
namespace Go.Mrl
open Go.Vg
end Go.Mrl
namespace Go.Mrl
open Go.Vg
end Go.Mrl

namespace Go.Mrl
open Go.Vg
end Go.Mrl
namespace Go.Mrl
open Go.Vg
end Go.Mrl
namespace Go.Mrl
open Go.Vg
end Go.Mrl
namespace Go.Mrl
open Go.Vg
end Go.Mrl
namespace Go.Mrl
open Go.Vg
end Go.Mrl
namespace Go.Mrl
open Go.Vg
end Go.Mrl

namespace Go.Mrl
open Go.Vg
def iu(a b:Int×Int×Unit):Bool:=decide (a.2.1<=0) || (decide (b.2.1<=0) || (decide (a.1+a.2.1<=b.1) || decide (b.1+b.2.1<=a.1)))
def Kd{a b:Int×Int×Unit}:iu a b=true↔a.2.1<=0\/b.2.1<=0\/a.1+a.2.1<=b.1\/b.1+b.2.1<=a.1:=by simp[iu]
def xb{a b:Int×Int×Unit}:iu a b=false↔0<a.2.1/\0<b.2.1/\b.1<a.1+a.2.1/\a.1<b.1+b.2.1:=by simp[iu]
def cM(n:Int):Int:=(n+15) / 16*16
def o1(r:Int×Int×Unit):Prop:=-1000000<=r.1/\r.1<=1000000/\-1000000<=r.2.1/\r.2.1<=1000000
def jg(r:D aZ)(l:List (D aZ)):Bool:=l.all (iu r)
def mZ{t:Ty}{xs:List (D t)}{i:Nat}(h:i<xs.length):xs[i]?=some (nth t xs i):=by
 rw[List.getElem?_eq_getElem h,<-iF (List.getElem?_eq_getElem h)]
def dN{t:Ty}{xs:List (D t)}{i:Nat}(h:i<xs.length):nth t xs i∈xs:=by
 have:=mZ (t:=t) h;exact br this
def gV{t:Ty}{xs:List (D t)}{x:D t}(h:x∈xs):∃i,i<xs.length/\nth t xs i=x:=by
 obtain⟨i,hi,e⟩:=dw h;exact⟨i,hi,by rw[<-e];exact iF (List.getElem?_eq_getElem hi)⟩
def Cg{r:D aZ}{l:List (D aZ)}(h:∀j,j<l.length->iu r (nth aZ l j)=true):jg r l=true:=by
 unfold jg;rw[ca];intro x hx;obtain⟨i,hi,e⟩:=gV hx;rw[<-e];exact h i hi
def zE{r:D aZ}{l:List (D aZ)}{j:Nat}(h:j<l.length)(hf:iu r (nth aZ l j)=false):jg r l=false:=by
 unfold jg;rw[c6];exact⟨_,dN h,by rw[hf];decide⟩
def Pv{r:D aZ}{l:List (D aZ)}(h:jg r l=false):∃x∈l,iu r x=false:=by
 unfold jg at h;rw[c6]at h;obtain⟨x,hx,e⟩:=h;exact⟨x,hx,by simpa using e⟩
def gA(l:List (D aZ))(many:Int):Nat->Int->Int
 |0,at_=>at_
 |n+1,at_=>if jg (at_,many,()) l=true then at_ else gA l many n (at_+16)
def gW:List (D aZ)->List Int->List Int->Option (List Int)
 |_,[],out=>some out
 |l,n :: r,out=>if 256<gA l (cM n) 40 0+cM n then none else gW (l++[(gA l (cM n) 40 0,cM n,())]) r (out++[gA l (cM n) 40 0])
def AN(s:List Int):Bool:=s.any fun(n:Int)=>decide (n<1) || decide (40<n)
def AO(l:List (D aZ)):Bool:=l.any fun(r:Int×Int×Unit)=>decide (r.1<0) || (decide (256<r.1) || (decide (r.2.1<0) || decide (256<r.2.1)))
def cN(x:List Int×List (D aZ)):List Int×aK:=
 if 6<x.1.length\/20<x.2.length then([],.no 2)else if AN x.1=true\/AO x.2=true then([],.no 1)else
  match gW x.2 x.1 []with
  |some o=>(o,.nil)
  |none=>([],.no 8)
def Lv{t:Ty}{xs:List (D t)}{p:D t->Bool}{i:Nat}(h:i<xs.length)(hp:p (nth t xs i)=true):xs.any p=true:=by
 rw[cw];exact⟨_,dN h,hp⟩
def Lw{t:Ty}{xs:List (D t)}{p:D t->Bool}(h:∀i,i<xs.length->p (nth t xs i)=false):xs.any p=false:=by
 rw[cy];intro x hx;obtain⟨i,hi,e⟩:=gV hx;rw[<-e,h i hi];decide
def sd{l:List (D aZ)}{s out:List Int}{k:Nat}(h:k<s.length):gW l (s.drop k) out=
  if 256<gA l (cM (nth (.int .i64) s k)) 40 0+cM (nth (.int .i64) s k)then none
  else gW (l++[(gA l (cM (nth (.int .i64) s k)) 40 0,cM (nth (.int .i64) s k),())]) (s.drop (k+1)) (out++[gA l (cM (nth (.int .i64) s k)) 40 0]):=by
 have e:s.drop k=nth (.int .i64) s k :: s.drop (k+1):=by
  rw[eu h];congr 1;exact(iF (t:=.int .i64) (List.getElem?_eq_getElem h)).symm
 rw[e];rfl
def Ke{l:List (D aZ)}{s out:List Int}{k:Nat}(h:s.length<=k):gW l (s.drop k) out=some out:=by
 rw[b3 h];rfl
def nR(r:Int×Int×Unit):Prop:=0<=r.1/\r.1<=256/\0<=r.2.1/\r.2.1<=256
def nR.o1{r:Int×Int×Unit}(h:nR r):Mrl.o1 r:=by
 obtain⟨h1,h2,h3,h4⟩:=h;refine⟨?_,?_,?_,?_⟩ <;> omega
def Pw{l:List (D aZ)}{at_ many:Int}(hl:∀x∈l,nR x)(h:jg (at_,many,()) l=false):at_<512:=by
 obtain⟨x,hx,e⟩:=Pv h;obtain⟨h1,h2,h3,h4⟩:=hl x hx;obtain⟨h5,h6,h7,h8⟩:=xb.1 e;have h8:at_<x.1+x.2.1:=h8;omega
def qv{l:List (D aZ)}{many at_:Int}{n:Nat}(h:jg (at_,many,()) l=true):gA l many n at_=at_:=by
 cases n with
 |zero=>rfl
 |succ n=>rw[gA,if_pos h]
def EF{l:List (D aZ)}{many at_:Int}{n:Nat}(h:jg (at_,many,()) l=false):gA l many (n+1) at_=gA l many n (at_+16):=by
 rw[gA,if_neg (by rw[h];decide)]
def lz{n:Int}(h1:1<=n)(h2:n<=40):16<=cM n/\cM n<=48:=by unfold cM;omega
end Go.Mrl
namespace Go.Mrl
open Go.Vg
def zF{s:List Int}{l:List (D aZ)}(h:6<s.length\/20<l.length):cN (s,l)=([],.no 2):=by
 unfold cN;rw[if_pos h]
def zG{s:List Int}{l:List (D aZ)}(h:¬(6<s.length\/20<l.length)){i:Nat}(hi:i<s.length)(hb:¬(1<=(nth (.int .i64) s i:Int)/\(nth (.int .i64) s i:Int)<=40)):cN (s,l)=([],.no 1):=by
 unfold cN;rw[if_neg h,if_pos];refine .inl (Lv (t:=.int .i64) hi ?_);simp only[bq,decide_eq_true_eq];generalize nth (.int .i64) s i=x at hb;have hb:¬(1<=(x:Int)/\(x:Int)<=40):=hb;dsimp only[D]at*;omega
def xc{s:List Int}{l:List (D aZ)}(h:¬(6<s.length\/20<l.length)){i:Nat}(hi:i<l.length)(hb:¬nR (nth aZ l i)):cN (s,l)=([],.no 1):=by
 unfold cN;rw[if_neg h,if_pos];refine .inr (Lv (t:=aZ) hi ?_);simp only[bq,decide_eq_true_eq];unfold nR at hb;dsimp only[D]at*;omega
def xe{s:List Int}{l:List (D aZ)}(h:¬(6<s.length\/20<l.length))(hs:∀j,j<s.length->1<=(nth (.int .i64) s j:Int)/\(nth (.int .i64) s j:Int)<=40)(ht:∀j,j<l.length->nR (nth aZ l j)) :
  cN (s,l)=match gW l s []with|some o=>(o,.nil)|none=>([],.no 8):=by
 unfold cN;rw[if_neg h,if_neg];rintro(e|e)
 ·have:AN s=false:=Lw (t:=.int .i64) fun i hi=>by
   have:=hs i hi;simp only[du,decide_eq_false_iff_not];dsimp only[D]at*;omega
  rw[this]at e;cases e
 ·have:AO l=false:=Lw (t:=aZ) fun i hi=>by
   have:=ht i hi;unfold nR at this;simp only[du,decide_eq_false_iff_not];dsimp only[D]at*;omega
  rw[this]at e;cases e
end Go.Mrl
namespace Go.Mrl
open Go.Vg
def SX{l:List (Int×Int×Unit)}{r:Int×Int×Unit}(h:∀y∈l,nR y)(hr:nR r):∀y∈l++[r],nR y:=by
 intro y hy;rcases au.1 hy with hy|hy
 ·exact h y hy
 ·simp at hy;rw[hy];exact hr
end Go.Mrl
namespace Go.Mrl
open Go.Vg
end Go.Mrl
namespace Go.Mrl
open Go.Vg
end Go.Mrl

namespace Go.Mrl
open Go.Vg
def zH{t:Ty}{a b:List (D t)}(hl:a.length=b.length)(h:∀i,i<a.length->nth t a i=nth t b i):a=b:=by
 apply List.ext_getElem hl;intro i h1 h2;have:=h i h1
 rwa [show nth t a i=a[i]from iF (List.getElem?_eq_getElem h1),show nth t b i=b[i]from iF (List.getElem?_eq_getElem h2)]at this
def mK(a b:List Int):Bool:=decide (a=b)
def MZ{a b:List Int}(hl:(a.length:Int)=b.length)(h:∀i,i<a.length->nth (.int .i64) a i=nth (.int .i64) b i):true=mK a b:=by
 rw[zH (t:=.int .i64) (by omega) h];simp[mK]
def Px{a b:List Int}(hl:¬(a.length:Int)=b.length):false=mK a b:=by
 symm;simp only[mK,decide_eq_false_iff_not];intro e;exact hl (by rw[e])
def SY{a b:List Int}{i:Nat}(h:¬nth (.int .i64) a i=nth (.int .i64) b i):false=mK a b:=by
 symm;simp only[mK,decide_eq_false_iff_not];intro e;exact h (by rw[e])
def XL{α:Type}{p:Nat->α->Prop}{f:Nat->α}{k:Nat}(h:∀j,j<k->p j (f j))(hk:p k (f k)):∀j,j<k+1->p j (f j):=by
 intro j hj;by_cases e:j=k
 ·subst e;exact hk
 ·exact h j (by omega)
def Py{p:Nat->Prop}{k:Nat}(h:∀j,j<k->p j)(hk:p k):∀j,j<k+1->p j:=by
 intro j hj;by_cases e:j=k
 ·subst e;exact hk
 ·exact h j (by omega)
def up(n i:Nat):Nat:=if i<n then i else i+1
def pz{t:Ty}{a b:List (D t)}{i:Nat}:nth t (a++b) i=if i<a.length then nth t a i else nth t b (i-a.length):=by
 unfold nth;simp only[List.getD_eq_getElem?_getD,List.getElem?_append];split <;> rfl
def AP{t:Ty}{a:List (D t)}{n i:Nat}(h:i<n):nth t (a.take n) i=nth t a i:=by
 unfold nth;simp only[List.getD_eq_getElem?_getD,List.getElem?_take,if_pos h]
@[reducible] def jr:Ty:=.slice (.int .i64)
@[reducible] def mm:Ty:=.slice jr
abbrev Pt:=Int×Int×Int×Unit
abbrev Ws:=List (List Int)
def uj(w:Ws)(p:Pt):Prop:=0<=p.1/\p.1<w.length/\0<=p.2.1/\p.2.1<(nth jr w p.1.toNat).length
def tG(w:Ws)(p:Pt):Ws:=w.set p.1.toNat ((nth jr w p.1.toNat).set p.2.1.toNat p.2.2.1)
def lA(w:Ws)(l:List Pt):Ws:=l.foldl tG w
open Classical in
def je(x:Ws×List Pt):Ws×aK:=if ∀i,i<x.2.length->uj x.1 (nth aR x.2 i)then(lA x.1 x.2,.nil)else([],.no 1)
def kR{t:Ty}{l:List (D t)}{i j:Nat}{x:D t}(h:¬i=j):nth t (l.set i x) j=nth t l j:=by
 unfold nth;simp only[List.getD_eq_getElem?_getD];rw[List.getElem?_set_ne h]
def lZ{t:Ty}{l:List (D t)}{i:Nat}{x:D t}(h:i<l.length):nth t (l.set i x) i=x:=by
 unfold nth;simp only[List.getD_eq_getElem?_getD];rw[List.getElem?_set_self h];rfl
def Kf(w:Ws)(p:Pt):(tG w p).length=w.length:=by simp[tG]
def SZ(w:Ws)(p:Pt)(i:Nat):nth jr (tG w p) i=if i<w.length/\p.1.toNat=i then(nth jr w i).set p.2.1.toNat p.2.2.1 else nth jr w i:=by
 unfold tG;by_cases c:p.1.toNat=i
 ·subst c
  by_cases c2:p.1.toNat<w.length
  ·rw[if_pos ⟨c2,rfl⟩,lZ (t:=jr) c2]
  ·rw[if_neg (fun h=>c2 h.1),List.set_eq_of_length_le (by omega)]
 ·rw[if_neg (fun h=>c h.2),kR (t:=jr) c]
def Pz(w:Ws)(p:Pt)(i:Nat):(nth jr (tG w p) i).length=(nth jr w i).length:=by
 rw[SZ];split <;> simp
def qw(l:List Pt):∀w:Ws,(lA w l).length=w.length:=by
 induction l with
 |nil=>intro w;rfl
 |cons p l ih=>intro w;show(lA (tG w p) l).length=_;rw[ih,Kf]
def xf(l:List Pt):∀(w:Ws) (i:Nat),(nth jr (lA w l) i).length=(nth jr w i).length:=by
 induction l with
 |nil=>intro w i;rfl
 |cons p l ih=>intro w i;show(nth jr (lA (tG w p) l) i).length=_;rw[ih,Pz]
def PA(w:Ws)(l:List Pt)(p:Pt):lA w (l++[p])=tG (lA w l) p:=by simp[lA]
def lM{t:Ty}{l:List (D t)}{k:Nat}(h:k<l.length):l.take (k+1)=l.take k++[nth t l k]:=by
 rw[dx,mZ h];rfl
def PB{w:Ws}{l:List Pt}{k:Nat}(h:k<l.length):tG (lA w (l.take k)) (nth aR l k)=lA w (l.take (k+1)):=by
 rw[lM (t:=aR) h,PA]
def yy{w:Ws}{l:List Pt}(h:∀i,i<l.length->uj w (nth aR l i)):je (w,l)=(lA w l,.nil):=by unfold je;rw[if_pos h]
def S3{w:Ws}{l:List Pt}{i:Nat}(hi:i<l.length)(h:¬uj w (nth aR l i)):je (w,l)=([],.no 1):=by
 unfold je;rw[if_neg (fun hh=>h (hh i hi))]
def S4{w:Ws}{l:List Pt}(h:(je (w,l)).2.isNil=true):∀i,i<l.length->uj w (nth aR l i):=by
 unfold je at h;split at h
 ·assumption
 ·cases h
def S5{w:Ws}{l:List Pt}(h:(je (w,l)).2.isNil=true):(je (w,l)).1.length=w.length:=by rw[yy (S4 h)];exact qw l w
def Small(x:Int):Prop:=-1000000<=x/\x<=1000000
def Word(x:Int):Prop:=-2147483648<=x/\x<=2147483647
def UQ(o:D aB):Prop:=o.2.2.2.1.length<=10/\(∀i,i<o.2.2.1.length->Small (nth aS o.2.2.1 i).2.1)/\
 ∀i,i<o.2.2.2.1.length->Small (nth bD o.2.2.2.1 i).1/\Word (nth bD o.2.2.2.1 i).2.2.1
def jP(l:List (D aB)):Prop:=l.length<=8/\∀i,i<l.length->UQ (nth aB l i)
def pR(b:List Int):Prop:=∀i,i<b.length->0<=(nth (.int .i64) b i:Int)/\(nth (.int .i64) b i:Int)<=256
def og(b:List Int)(i:Nat):Int:=nth (.int .i64) b i
def fQ(l:List (D aB))(b:List Int)(t:D bD):Int×aK:=
 if 0<=(eH (l,t.2.2.2.1)).1 then(og b (eH (l,t.2.2.2.1)).1.toNat+(nth aS (nth aB l (eH (l,t.2.2.2.1)).1.toNat).2.2.1 (eH (l,t.2.2.2.1)).2.toNat).2.1,.nil)
 else if t.2.2.2.2.1=true then(0,.nil)else(0,.no 6)
def kq(b:List Int)(i:Int)(t:D bD)(n:Int):Int×aK:=
 if t.2.1=(3:Int)then
  if n-(og b i.toNat+t.1)< -500\/500<n-(og b i.toNat+t.1)then(0,.no 7)
  else(n-(og b i.toNat+t.1),.nil)
 else if n< -2147483648\/2147483647<n then(0,.no 7)else(n,.nil)
def gX(l:List (D aB))(b:List Int)(i:Int)(t:D bD):Int×aK:=
 if t.2.1=(1:Int)then kq b i t (og b i.toNat+t.2.2.1)
 else if(fQ l b t).2.isNil=true then kq b i t ((fQ l b t).1+t.2.2.1)else(0,(fQ l b t).2)
def oh(l:List (D aB))(b:List Int)(i:Nat):List (D bD)->List Pt->List Pt×aK
 |[],out=>(out,.nil)
 |t :: r,out=>if(gX l b i t).2.isNil=true then oh l b i r (out++[((i:Int),t.1,(gX l b i t).1,())])else([],(gX l b i t).2)
def oD(f:List Pt->List Pt×aK)(x:List Pt×aK):List Pt×aK:=if x.2.isNil=true then f x.1 else([],x.2)
def nS(l:List (D aB))(b:List Int):List (D aB)->Nat->List Pt->List Pt×aK
 |[],_,out=>(out,.nil)
 |o :: r,i,out=>oD (nS l b r (i+1)) (oh l b i o.2.2.2.1 out)
open Classical in
def iJ(x:List (D aB)×List Int):List Pt×aK:=
 if ¬x.2.length=x.1.length then([],.no 3)else if pR x.2 then nS x.1 x.2 x.1 0 []else([],.no 1)
def iK{t:Ty}{l:List (D t)}{i:Nat}(h:i<l.length):l.drop i=nth t l i :: l.drop (i+1):=by
 rw[eu h];congr 1;have:=mZ h;rw[List.getElem?_eq_getElem h]at this;exact dy this
def PC{l:List (D aB)}{b:List Int}{i:Nat}{out:List Pt}(h:i<l.length) :
  nS l b (l.drop i) i out=oD (nS l b (l.drop (i+1)) (i+1)) (oh l b i ((nth aB l i).2.2.2.1.drop 0) out):=by
 rw[iK (t:=aB) h];rfl
def Vs{l:List (D aB)}{b:List Int}{i:Nat}{out:List Pt}(h:l.length<=i):nS l b (l.drop i) i out=(out,.nil):=by
 rw[b3 h];rfl
def WT{l:List (D aB)}{b:List Int}{i k:Nat}{ts:List (D bD)}{out:List Pt}(h:k<ts.length)(hn:(gX l b i (nth bD ts k)).2.isNil=true) :
  oh l b i (ts.drop k) out=oh l b i (ts.drop (k+1)) (out++[((i:Int),(nth bD ts k).1,(gX l b i (nth bD ts k)).1,())]):=by
 rw[iK (t:=bD) h,oh,if_pos hn]
def Vt{l:List (D aB)}{b:List Int}{i k:Nat}{ts:List (D bD)}{out:List Pt}{f:List Pt->List Pt×aK}(h:k<ts.length)(hn:(gX l b i (nth bD ts k)).2.isNil=false) :
  oD f (oh l b i (ts.drop k) out)=([],(gX l b i (nth bD ts k)).2):=by
 rw[iK (t:=bD) h,oh,if_neg (by simp[hn])];unfold oD;rw[if_neg (by simp[hn])]
def Vu{l:List (D aB)}{b:List Int}{i k:Nat}{ts:List (D bD)}{out:List Pt}{f:List Pt->List Pt×aK}(h:ts.length<=k):oD f (oh l b i (ts.drop k) out)=f out:=by
 rw[b3 h];rfl
def Dz{l:List (D aB)}{b:List Int}(h:b.length=l.length)(hb:pR b):iJ (l,b)=nS l b l 0 []:=by unfold iJ;rw[if_neg (by simpa using h),if_pos hb]
def S6{l:List (D aB)}{b:List Int}(h:¬b.length=l.length):iJ (l,b)=([],.no 3):=by unfold iJ;rw[if_pos h]
def PE{l:List (D aB)}{b:List Int}{i:Nat}(h:b.length=l.length)(hi:i<b.length)(hn:¬(0<=(nth (.int .i64) b i:Int)/\(nth (.int .i64) b i:Int)<=256)):iJ (l,b)=([],.no 1):=by
 unfold iJ;rw[if_neg (by simpa using h),if_neg (fun hh=>hn (hh i hi))]
def qa{b:List Int}{n:Nat}{i:Int}(hb:pR b)(hl:b.length=n)(h0:0<=i)(h1:i<n):0<=(nth (.int .i64) b i.toNat:Int)/\(nth (.int .i64) b i.toNat:Int)<=256:=hb _ (by omega)
def PF{l:List (D aB)}{s:List UInt8}(hm:jP l)(h:0<=(eH (l,s)).1):Small (nth aS (nth aB l (eH (l,s)).1.toNat).2.2.1 (eH (l,s)).2.toNat).2.1:=by
 have hf:=yx h;exact(hm.2 _ (by omega)).2.1 _ (by omega)
def Ch{l:List (D aB)}{b:List Int}{t:D bD}(h:0<=(eH (l,t.2.2.2.1)).1) :
  fQ l b t=(nth (.int .i64) b (eH (l,t.2.2.2.1)).1.toNat+(nth aS (nth aB l (eH (l,t.2.2.2.1)).1.toNat).2.2.1 (eH (l,t.2.2.2.1)).2.toNat).2.1,.nil):=by unfold fQ og;rw[if_pos h]
def zI{l:List (D aB)}{b:List Int}{t:D bD}(h:(eH (l,t.2.2.2.1)).1<0)(hw:t.2.2.2.2.1=true):fQ l b t=(0,.nil):=by unfold fQ;rw[if_neg (by omega),if_pos hw]
def xg{l:List (D aB)}{b:List Int}{t:D bD}(h:(eH (l,t.2.2.2.1)).1<0)(hw:t.2.2.2.2.1=false):fQ l b t=(0,.no 6):=by unfold fQ;rw[if_neg (by omega),if_neg (by simp[hw])]
def xh{l:List (D aB)}{b:List Int}(t:D bD)(hm:jP l)(hl:b.length=l.length)(hb:pR b) : -2000000<=(fQ l b t).1/\(fQ l b t).1<=2000000:=by
 by_cases h:0<=(eH (l,t.2.2.2.1)).1
 ·have h1:=qa hb hl h (yx h).1
  have h2:=PF hm h;rw[Ch h];unfold Small at h2;dsimp only[D]at*;omega
 ·cases hw:t.2.2.2.2.1 with
  |true=>rw[zI (by omega) hw];simp
  |false=>rw[xg (by omega) hw];simp
def AQ{l:List (D aB)}{b:List Int}{i:Int}{t:D bD}(h:t.2.1=(1:Int)):gX l b i t=kq b i t (nth (.int .i64) b i.toNat+t.2.2.1):=by unfold gX;rw[if_pos h];rfl
def yz{l:List (D aB)}{b:List Int}{i:Int}{t:D bD}(h:¬t.2.1=(1:Int))(hn:(fQ l b t).2.isNil=true):gX l b i t=kq b i t ((fQ l b t).1+t.2.2.1):=by unfold gX;rw[if_neg h,if_pos hn]
def Vv{l:List (D aB)}{b:List Int}{i:Int}{t:D bD}(h:¬t.2.1=(1:Int))(hn:(fQ l b t).2.isNil=false):gX l b i t=(0,(fQ l b t).2):=by unfold gX;rw[if_neg h,if_neg (by simp[hn])]
def S7{b:List Int}{i n:Int}{t:D bD}(h:t.2.1=(3:Int))(hr:n-(nth (.int .i64) b i.toNat+t.1)< -500\/500<n-(nth (.int .i64) b i.toNat+t.1)):kq b i t n=(0,.no 7):=by
 unfold kq og;rw[if_pos h,if_pos hr]
def Vw{b:List Int}{i n m:Int}{t:D bD}(h:t.2.1=(3:Int))(e:m=n-(nth (.int .i64) b i.toNat+t.1))(hr : -500<=m/\m<=500):kq b i t n=(m,.nil):=by
 unfold kq og;rw[if_pos h,if_neg (by omega),e]
def HA{b:List Int}{i n:Int}{t:D bD}(h:¬t.2.1=(3:Int))(hr:n< -2147483648\/2147483647<n):kq b i t n=(0,.no 7):=by
 unfold kq;rw[if_neg h,if_pos hr]
def DA{b:List Int}{i n m:Int}{t:D bD}(h:¬t.2.1=(3:Int))(e:m=n)(hr : -2147483648<=n/\n<=2147483647):kq b i t n=(m,.nil):=by
 unfold kq;rw[if_neg h,if_neg (by omega),e]
def Told(e:aK):Prop:=yw e (jq e)=true
def EG(b:List Int)(i n:Int)(t:D bD):Told (kq b i t n).2:=by
 unfold kq;split <;> split <;> rfl
def Kg(l:List (D aB))(b:List Int)(t:D bD):Told (fQ l b t).2:=by
 unfold fQ;split
 ·rfl
 ·split <;> rfl
def S8(l:List (D aB))(b:List Int)(i:Int)(t:D bD):Told (gX l b i t).2:=by
 unfold gX;split
 ·exact EG _ _ _ _
 ·split
  ·exact EG _ _ _ _
  ·exact Kg _ _ _
def HB(l:List (D aB))(b:List Int)(i:Nat):∀(ts:List (D bD)) (out:List Pt),Told (oh l b i ts out).2
 |[],_=>rfl
 |t :: r,out=>by
  rw[oh];split
  ·exact HB l b i r _
  ·exact S8 _ _ _ _
def HC(l:List (D aB))(b:List Int):∀(os:List (D aB)) (i:Nat) (out:List Pt),Told (nS l b os i out).2
 |[],_,_=>rfl
 |o :: r,i,out=>by
  rw[nS];unfold oD;split
  ·exact HC l b r _ _
  ·exact HB _ _ _ _ _
def HD(x:List (D aB)×List Int):yw (iJ x).2 (jq (iJ x).2)=true:=by
 unfold iJ;split
 ·rfl
 ·split
  ·exact HC _ _ _ _ _
  ·rfl
def im(n:Int):Bool:=decide (-2147483648<=n)&&decide (n<=2147483647)
def jB:List (List UInt8)->List (List UInt8)->Int
 |_,[]=>0
 |p,s :: r=>if aP s > 0 then aP s else if p.any (· == s)=true then 3 else jB (p++[s]) r
def kS:List Int->Int
 |[]=>0
 |n :: r=>if im n=true then kS r else 1
def iq(n:Nat):List (D aS)->List (D aS)->Int
 |_,[]=>0
 |p,s :: r=>if aP s.1 > 0 then aP s.1 else if s.2.1<0\/s.2.1>=(n:Int)then 1 else if p.any (fun x=>x.1 == s.1)=true then 3 else iq n (p++[s]) r
def om(a:Int):Option Int->Bool
 |some b=>decide (a<=b)
 |none=>false
def nc(n:Nat)(prev:Option Int)(t:D bD):Int:=
 if t.1<0\/t.1>=(n:Int)\/im t.2.2.1=false then 1
 else if t.2.1<1\/t.2.1 > 3\/om t.1 prev=true then 3
 else if t.2.1=1 then(if t.2.2.2.1≠[]\/t.2.2.2.2.1=true then 3 else 0)
 else aP t.2.2.2.1
def kT(n:Nat):Option Int->List (D bD)->Int
 |_,[]=>0
 |prev,t :: r=>if nc n prev t≠0 then nc n prev t else kT n (some t.1) r
def l5(o:D aB):Prop:=o.1.length > 4\/o.2.1.length<1\/o.2.1.length > 40\/o.2.2.1.length > 8\/o.2.2.2.1.length > 6
instance(o:D aB):Decidable (l5 o):=by unfold l5;infer_instance
def dB(o:D aB):Int:=
 if l5 o then 2 else if jB [] o.1≠0 then jB [] o.1 else if kS o.2.1≠0 then kS o.2.1
 else if iq o.2.1.length [] o.2.2.1≠0 then iq o.2.1.length [] o.2.2.1 else kT o.2.1.length none o.2.2.2.1
def iM{t:Ty}{l:List (D t)}{i:Nat}(h:i<l.length):l.take (i+1)=l.take i++[nth t l i]:=by
 rw[dx];congr 1;unfold nth;simp[h]
def xi(n:Nat):∀(l p:List (D aS)),0<=iq n p l
 |[],_=>az _
 |s :: r,p=>by
  unfold iq;split
  ·omega
  ·split
   ·decide
   ·split
    ·decide
    ·exact xi n r _
structure kf (l:List (List UInt8)) (i:Nat):Prop where
 le:i<=l.length
 eq:jB (l.take i) (l.drop i)=jB [] l
def kf.zero(l:List (List UInt8)):kf l 0:=⟨ar _,rfl⟩
def kf.fault{l:List (List UInt8)}{i:Nat}(h:kf l i)(hi:i<l.length)(hf:aP (nth .str l i) > 0):jB [] l=aP (nth .str l i):=by
 rw[<-h.eq,iK (t:=.str) hi];unfold jB;rw[if_pos hf]
def kf.dup{l:List (List UInt8)}{i:Nat}(h:kf l i)(hi:i<l.length)(hf:aP (nth .str l i)<=0)(ha:(l.take i).any (· == nth .str l i)=true):jB [] l=3:=by
 rw[<-h.eq,iK (t:=.str) hi];unfold jB;rw[if_neg (by omega),if_pos ha]
def kf.next{l:List (List UInt8)}{i:Nat}(h:kf l i)(hi:i<l.length)(hf:aP (nth .str l i)<=0)(ha:(l.take i).any (· == nth .str l i)=false):kf l (i+1):=by
 refine⟨hi,?_⟩;rw[<-h.eq,iK (t:=.str) hi,iM (t:=.str) hi]
 conv=>rhs;unfold jB
 rw[if_neg (by omega),if_neg (by rw[ha];decide)]
def kf.done{l:List (List UInt8)}{i:Nat}(h:kf l i)(hi:¬i<l.length):jB [] l=0:=by
 rw[<-h.eq,b3 (by omega)];rfl
structure lB (l:List Int) (i:Nat):Prop where
 le:i<=l.length
 eq:kS (l.drop i)=kS l
def lB.zero(l:List Int):lB l 0:=⟨ar _,rfl⟩
def lB.fault{l:List Int}{i:Nat}(h:lB l i)(hi:i<l.length)(hf:im (nth (.int .i64) l i)=false):kS l=1:=by
 rw[<-h.eq,iK (t:=.int .i64) hi];unfold kS;rw[if_neg (by rw[hf];decide)]
def lB.next{l:List Int}{i:Nat}(h:lB l i)(hi:i<l.length)(hf:im (nth (.int .i64) l i)=true):lB l (i+1):=by
 refine⟨hi,?_⟩;rw[<-h.eq,iK (t:=.int .i64) hi]
 conv=>rhs;unfold kS
 rw[if_pos hf]
def lB.done{l:List Int}{i:Nat}(h:lB l i)(hi:¬i<l.length):kS l=0:=by
 rw[<-h.eq,b3 (by omega)];rfl
structure kU (n:Nat) (l:List (D aS)) (i:Nat):Prop where
 le:i<=l.length
 eq:iq n (l.take i) (l.drop i)=iq n [] l
def kU.zero(n:Nat)(l:List (D aS)):kU n l 0:=⟨ar _,rfl⟩
def kU.fault{n:Nat}{l:List (D aS)}{i:Nat}(h:kU n l i)(hi:i<l.length)(hf:aP (nth aS l i).1 > 0):iq n [] l=aP (nth aS l i).1:=by
 rw[<-h.eq,iK (t:=aS) hi];unfold iq;rw[if_pos hf]
def kU.out{n:Nat}{l:List (D aS)}{i:Nat}(h:kU n l i)(hi:i<l.length)(hf:aP (nth aS l i).1<=0)(ho:(nth aS l i).2.1<0\/(nth aS l i).2.1>=(n:Int)):iq n [] l=1:=by
 rw[<-h.eq,iK (t:=aS) hi];unfold iq;rw[if_neg (by omega),if_pos ho]
def kU.dup{n:Nat}{l:List (D aS)}{i:Nat}(h:kU n l i)(hi:i<l.length)(hf:aP (nth aS l i).1<=0)(ho:¬((nth aS l i).2.1<0\/(nth aS l i).2.1>=(n:Int)))
  (ha:(l.take i).any (fun x=>x.1 == (nth aS l i).1)=true):iq n [] l=3:=by
 rw[<-h.eq,iK (t:=aS) hi];unfold iq;rw[if_neg (by omega),if_neg ho,if_pos ha]
def kU.next{n:Nat}{l:List (D aS)}{i:Nat}(h:kU n l i)(hi:i<l.length)(hf:aP (nth aS l i).1<=0)(ho:¬((nth aS l i).2.1<0\/(nth aS l i).2.1>=(n:Int)))
  (ha:(l.take i).any (fun x=>x.1 == (nth aS l i).1)=false):kU n l (i+1):=by
 refine⟨hi,?_⟩;rw[<-h.eq,iK (t:=aS) hi,iM (t:=aS) hi]
 conv=>rhs;unfold iq
 rw[if_neg (by omega),if_neg ho,if_neg (by rw[ha];decide)]
def kU.done{n:Nat}{l:List (D aS)}{i:Nat}(h:kU n l i)(hi:¬i<l.length):iq n [] l=0:=by
 rw[<-h.eq,b3 (by omega)];rfl
def oE(l:List (D bD))(i:Nat):Option Int:=if i=0 then none else some (nth bD l (i-1)).1
structure nH (n:Nat) (l:List (D bD)) (i:Nat):Prop where
 le:i<=l.length
 eq:kT n (oE l i) (l.drop i)=kT n none l
def nH.zero(n:Nat)(l:List (D bD)):nH n l 0:=⟨ar _,rfl⟩
def nH.fault{n:Nat}{l:List (D bD)}{i:Nat}(h:nH n l i)(hi:i<l.length){f:Int}(hf:nc n (oE l i) (nth bD l i)=f)(h0:f≠0):kT n none l=f:=by
 rw[<-h.eq,iK (t:=bD) hi];unfold kT;rw[if_pos (by rw[hf];exact h0),hf]
def nH.next{n:Nat}{l:List (D bD)}{i:Nat}(h:nH n l i)(hi:i<l.length)(hf:nc n (oE l i) (nth bD l i)=0):nH n l (i+1):=by
 refine⟨hi,?_⟩;rw[<-h.eq,iK (t:=bD) hi]
 conv=>rhs;unfold kT
 rw[if_neg (by rw[hf];decide)];rfl
def nH.done{n:Nat}{l:List (D bD)}{i:Nat}(h:nH n l i)(hi:¬i<l.length):kT n none l=0:=by
 rw[<-h.eq,b3 (by omega)];rfl
def HE{t:Ty}{l:List (D t)}{i j:Nat}{f:D t->Bool}(hj:j<i)(hi:i<=l.length)(h:f (nth t l j)=true):(l.take i).any f=true:=by
 rw[cw];refine⟨nth t l j,?_,h⟩;have:(l.take i)[j]?=some (nth t l j):=by
  rw[List.getElem?_take,if_pos hj];unfold nth;rw[List.getD_eq_getElem?_getD,List.getElem?_eq_getElem (by omega)];rfl
 exact br this
def EH{t:Ty}{l:List (D t)}{i:Nat}{f:D t->Bool}(h:∀j,j<i->f (nth t l j)=false):(l.take i).any f=false:=by
 rw[cy];intro x hx;obtain⟨j,hj,rfl⟩:=dw hx;rw[bh]at hj;have:=h j (by omega);rw[List.getElem_take];have e:nth t l j=l[j]'(by omega):=by unfold nth;simp[show j<l.length by omega]
 rw[e]at this;rw[this];decide
def contains_of{l:List (List UInt8)}{s:List UInt8}{y:Int}(h:(y= -1/\∀j,j<l.length->nth .str l j≠s)\/(0<=y/\y.toNat<l.length/\nth .str l y.toNat=s)):decide (y>=0)=l.any (· == s):=by
 rcases h with⟨rfl,h⟩|⟨h1,h2,h3⟩
 ·have:=EH (t:=.str) (l:=l) (i:=l.length) (f:=(· == s)) fun j hj=>by simpa using h j hj
  rw[cb]at this;rw[this];rfl
 ·have:=HE (t:=.str) (l:=l) (i:=l.length) (f:=(· == s)) h2 (ak _) (by simpa using h3)
  rw[cb]at this;rw[this];simpa using h1
def Kh{o:D aB}(h:l5 o):dB o=2:=by unfold dB;rw[if_pos h]
def xj{o:D aB}(h:¬l5 o){f:Int}(hf:jB [] o.1=f)(h0:f≠0):dB o=f:=by unfold dB;rw[if_neg h,if_pos (by rw[hf];exact h0),hf]
def HF{o:D aB}(h:¬l5 o)(h1:jB [] o.1=0){f:Int}(hf:kS o.2.1=f)(h0:f≠0):dB o=f:=by
 unfold dB;rw[if_neg h,if_neg (by rw[h1];decide),if_pos (by rw[hf];exact h0),hf]
def Ki{o:D aB}(h:¬l5 o)(h1:jB [] o.1=0)(h2:kS o.2.1=0){f:Int}(hf:iq o.2.1.length [] o.2.2.1=f)(h0:f≠0):dB o=f:=by
 unfold dB;rw[if_neg h,if_neg (by rw[h1];decide),if_neg (by rw[h2];decide),if_pos (by rw[hf];exact h0),hf]
def Kj{o:D aB}(h:¬l5 o)(h1:jB [] o.1=0)(h2:kS o.2.1=0)(h3:iq o.2.1.length [] o.2.2.1=0){f:Int}(hf:kT o.2.1.length none o.2.2.2.1=f):dB o=f:=by
 unfold dB;rw[if_neg h,if_neg (by rw[h1];decide),if_neg (by rw[h2];decide),if_neg (by rw[h3];decide),hf]
abbrev aD:=List UInt8
def pS(a b:aD):Prop:=bu a b=true
def HG(a:UInt8):¬a<a:=fun h=>by have:=dz.1 h;omega
def pA:∀a:aD,¬pS a a
 |[]=>fun h=>by cases h
 |a :: x=>fun h=>by
  unfold pS at h;simp only[bu,bq,decide_eq_true_eq,af]at h;rcases h with h|⟨_,h⟩
  ·exact HG a h
  ·exact pA x h
def xk:∀{a b c:aD},pS a b->pS b c->pS a c
 |a,[],_,h,_=>by unfold pS at h;cases a <;> simp[bu]at h
 |_,_ :: _,[],_,h=>by unfold pS at h;simp[bu]at h
 |[],_ :: _,_ :: _,_,_=>rfl
 |a :: x,b :: y,c :: z,h1,h2=>by
  unfold pS at h1 h2 ⊢;simp only[bu,bq,decide_eq_true_eq,af,beq_iff_eq]at h1 h2 ⊢;rcases h1 with h1|⟨rfl,h1⟩
  ·rcases h2 with h2|⟨rfl,h2⟩
   ·left;rw[dz]at*;omega
   ·exact .inl h1
  ·rcases h2 with h2|⟨rfl,h2⟩
   ·exact .inl h2
   ·exact .inr ⟨rfl,xk h1 h2⟩
def xl:∀{a b:aD},¬pS a b->¬pS b a->a=b
 |[],[],_,_=>rfl
 |[],_ :: _,h,_=>(h rfl).elim
 |_ :: _,[],_,h=>(h rfl).elim
 |a :: x,b :: y,h1,h2=>by
  unfold pS at h1 h2;simp only[bu,bq,decide_eq_true_eq,af,beq_iff_eq,not_or,not_and]at h1 h2;have hab:a=b:=by
   apply UInt8.toNat_inj.1;have h3:=h1.1;have h4:=h2.1;rw[dz]at h3 h4;omega
  subst hab;rw[xl (h1.2 rfl) (h2.2 rfl)]
def Ci(a b:aD):Prop:=¬pS b a
def HH(a:aD):Ci a a:=pA a
def EI{a b:aD}(h:pS a b):Ci a b:=fun h'=>pA a (xk h h')
def PG{a b c:aD}(h1:Ci a b)(h2:Ci b c):Ci a c:=by
 intro h;by_cases hab:pS a b
 ·exact h2 (xk h hab)
 ·have:=xl hab h1;subst this;exact h2 h
def xm{a b:aD}(h1:Ci a b)(h2:a≠b):pS a b:=aq fun h=>h2 (xl h h1)
abbrev Dk:=(Int×Bool×Unit)×(List (List UInt8)×(List (List UInt8)×(List (Int×List UInt8×Unit)×Unit)))
def xn(x:Int×Int):Int×Int:=(0,x.1*x.2)
def cV(s:List UInt8):List UInt8:=s++bb (64-s.length) 0
def stepOf(d:Dk):Dk×Int:=
 if d.1.2.1=true then(d,9)else if d.1.1=0 then(((-1,true,()),d.2),9)else(((if 0<d.1.1 then d.1.1-1 else d.1.1,false,()),d.2),0)
def bK(d:Dk)(at_:Int)(s:List UInt8):Dk×Int:=
 if at_<0\/(d.2.2.1.length:Int)<=at_\/64<s.length then(d,1)
 else if(stepOf d).2=0 then(((stepOf d).1.1,d.2.1,d.2.2.1.set at_.toNat (cV s),d.2.2.2.1++[(at_,cV s,())],()),0)else stepOf d
def qx(d:Dk)(at_:Int):List UInt8×Int:=
 if d.1.2.1=true then([],9)else if at_<0\/(d.2.2.1.length:Int)<=at_ then([],1)else(nth .str d.2.2.1 at_.toNat,0)
def bL(d:Dk):Dk×Int:=
 if(stepOf d).2=0 then(((stepOf d).1.1,d.2.2.1,d.2.2.1,[],()),0)else stepOf d
def AR(d:Dk)(n:Int):Dk:=((Dl n (-1),d.1.2.1,()),d.2)
def GB(k:Int)(i:Nat):Prop:=(dT .u64 ((b4 a7.bits (k.fdiv (2^(i % 64)))&&&b4 a7.bits 1).toNat:Int))=1
open Classical in
def gB(k:Int)(wait:List (Int×List UInt8×Unit))(kept:List (List UInt8)):Nat->List (List UInt8)
 |0=>kept
 |n+1=>if GB k n then(gB k wait kept n).set (nth fG wait n).1.toNat (nth fG wait n).2.1 else gB k wait kept n
def gO(d:Dk)(k:Int):Dk:=
 ((-1,false,()),gB k d.2.2.2.1 d.2.1 d.2.2.2.1.length,gB k d.2.2.2.1 d.2.1 d.2.2.2.1.length,[],())
def rb(n:Int):Dk:=((-1,false,()),bb n.toNat (cV []),bb n.toNat (cV []),[],())
def o3(k:Int)(wait:List (Int×List UInt8×Unit))(kept:List (List UInt8)):∀n,(gB k wait kept n).length=kept.length
 |0=>rfl
 |n+1=>by unfold gB;split <;> simp[o3 k wait kept n]
def fB(d:Dk):(stepOf d).1.2=d.2:=by
 unfold stepOf;split
 ·rfl
 ·split <;> rfl
def M0(n:Nat):bytesOf (bb n 0)=bb n 0:=by
 unfold bytesOf;rw[List.map_replicate];rfl
def lC{a:Int}(h0:0<=a)(h:a<18446744073709551616):a7.wrap a=a:=
 yd (by simp[dp,dq,dr,dt];omega)
def HI{a:Int}(h0:0<=a)(h:a<18446744073709551616):(b4 a7.bits a).toNat=a.toNat:=by
 rw[BitVec.toNat_ofInt];show(a % (2^64:Nat)).toNat=a.toNat;rw[Int.emod_eq_of_lt h0 (by simpa using h)]
def S9{a x:Int}(hx:x=dT .u64 ((b4 a7.bits a&&&b4 a7.bits 4294967295).toNat:Int))(h0:0<=a)(h:a<4294967296):x=a:=by
 rw[BitVec.toNat_and,HI h0 (by omega),HI (by omega) (by omega)]at hx;rw[show(4294967295:Int).toNat=2^32-1 from rfl,Nat.and_two_pow_sub_one_eq_mod,Nat.mod_eq_of_lt (by omega),ew h0,lC h0 (by omega)]at hx;exact hx
def HJ{a x:Int}{n:Nat}(hx:x=a.fdiv (2^(min n a7.bits)))(hn:n=32)(h0:0<=a)(h:a<4294967296):x=0:=by
 subst hn;rw[show min 32 a7.bits=32 from rfl,Int.fdiv_eq_ediv_of_nonneg _ (by decide),Int.ediv_eq_zero_of_lt h0 (by simpa using h)]at hx;exact hx
def l6(s:List UInt8)(n k:Nat):List (List UInt8):=bb k s++bb (n-k) []
def HK{s:List UInt8}{n k:Nat}(h:k<=n):(l6 s n k).length=n:=by simp[l6];omega
def M1{s:List UInt8}{n:Nat}(hn:0<n){k:Nat}(hk:k=1)(x:List (List UInt8))(hx:x=[s]):(bb n ([]:List UInt8)).take 0++x.take k++(bb n []).drop (0+k)=l6 s n 1:=by
 subst hk;subst hx;simp[l6]
def PH{s:List UInt8}{n k m:Nat}(hk:k+m<=n)(hm:m<=k):(l6 s n k).take k++((l6 s n k).take k).take m++(l6 s n k).drop (k+m)=l6 s n (k+m):=by
 have h1:(l6 s n k).take k=bb k s:=by
  unfold l6;rw[List.take_append_of_le_length (by simp),cg (by simp)]
 rw[h1,List.take_replicate,c7 hm];unfold l6;rw[List.drop_append,List.drop_of_length_le (by simp),ey,List.drop_replicate,List.length_replicate,<-List.replicate_append_replicate];rw[show n-k-(k+m-k)=n-(k+m) by omega]
def PI{s:List UInt8}{n:Nat}:l6 s n n=bb n s:=by simp[l6]
def aQ{n:Int}:(aI n).isNil=true↔n=0:=by
 unfold aI;split
 ·rename_i h;simp[h,aK.isNil]
 ·rename_i h;simp[h,aK.isNil]
def M3{d:Dk}{at_:Int}{s:List UInt8}(h:at_<0\/(d.2.2.1.length:Int)<=at_\/64<s.length):bK d at_ s=(d,1):=by unfold bK;rw[if_pos h]
def Kk{d:Dk}{at_:Int}{s:List UInt8}(h:¬(at_<0\/(d.2.2.1.length:Int)<=at_\/64<s.length))(h2:¬(stepOf d).2=0):bK d at_ s=stepOf d:=by unfold bK;rw[if_neg h,if_neg h2]
def PJ{d:Dk}{at_:Int}{s:List UInt8}(h:¬(at_<0\/(d.2.2.1.length:Int)<=at_\/64<s.length))(h2:(stepOf d).2=0) :
  bK d at_ s=(((stepOf d).1.1,d.2.1,d.2.2.1.set at_.toNat (cV s),d.2.2.2.1++[(at_,cV s,())],()),0):=by unfold bK;rw[if_neg h,if_pos h2]
def Vx{t:Ty}{l:List (D t)}{i:Nat}{x:D t}(h:i<l.length):nth t (l.set i x) i=x:=by
 unfold nth;simp[List.getD_eq_getElem?_getD,h]
def HM{a b:List (List UInt8)}(h:a.length=b.length):a.take 0++b.take (min b.length a.length)++a.drop (0+min b.length a.length)=b:=by
 rw[h,Nat.min_self];simp[h]
def Ta{k:Int}{i n:Nat}{x y:Int}(hx:x=k.fdiv (2^(min n a7.bits)))(hn:n=i % 64)(hy:y=dT .u64 ((b4 a7.bits x&&&b4 a7.bits 1).toNat:Int)):y=1↔GB k i:=by
 subst hn;have:min (i % 64) a7.bits=i % 64:=c7 (by show i % 64<=64;omega);rw[this]at hx;subst hx;subst hy;exact Iff.rfl
def Tb{k:Int}{wait:List (Int×List UInt8×Unit)}{kept:List (List UInt8)}{n:Nat}(h:GB k n):(gB k wait kept n).set (nth fG wait n).1.toNat (nth fG wait n).2.1=gB k wait kept (n+1):=by
 rw[gB,if_pos h]
def PK{k:Int}{wait:List (Int×List UInt8×Unit)}{kept:List (List UInt8)}{n:Nat}(h:¬GB k n):gB k wait kept n=gB k wait kept (n+1):=by
 rw[gB,if_neg h]
def Kl{d:Dk}(h:d.1.2.1=true):stepOf d=(d,9):=by unfold stepOf;rw[if_pos h]
def zJ{d:Dk}(h:d.1.2.1=false)(h0:d.1.1=0):stepOf d=(((-1,true,()),d.2),9):=by unfold stepOf;rw[if_neg (by rw[h];decide),if_pos h0]
def EJ{d:Dk}(h:d.1.2.1=false)(h0:¬d.1.1=0)(hf : -1<=d.1.1):stepOf d=(((if(-1:Int) > d.1.1-1 then(-1:Int)else d.1.1-1,d.1.2.1,()),d.2),0):=by
 unfold stepOf;rw[if_neg (by rw[h];decide),if_neg h0,h];by_cases c:0<d.1.1
 ·rw[if_pos c,if_neg (by omega)]
 ·rw[if_neg c,if_pos (by omega),show d.1.1= -1 by omega]
def M4{d:Dk}{a:Int}(h:d.1.2.1=true):qx d a=([],9):=by unfold qx;rw[if_pos h]
def PL{d:Dk}{a:Int}(h:d.1.2.1=false)(h2:a<0\/(d.2.2.1.length:Int)<=a):qx d a=([],1):=by unfold qx;rw[if_neg (by rw[h];decide),if_pos h2]
def Td{d:Dk}{a:Int}(h:d.1.2.1=false)(h2:¬(a<0\/(d.2.2.1.length:Int)<=a)):qx d a=(nth .str d.2.2.1 a.toNat,0):=by unfold qx;rw[if_neg (by rw[h];decide),if_neg h2]
def EK{d:Dk}(h:(stepOf d).2=0):bL d=(((stepOf d).1.1,d.2.2.1,d.2.2.1,[],()),0):=by unfold bL;rw[if_pos h]
def zK{d:Dk}(h:¬(stepOf d).2=0):bL d=stepOf d:=by unfold bL;rw[if_neg h]
def UR(i:Nat):cc ((i:Int).tmod 64)=i % 64:=by rw[ez (by omega)];omega
def lD{a:Int}(h0 : -9223372036854775808<=a)(h:a<9223372036854775808):IntKind.i64.wrap a=a:=
 yd (by rw[rF];unfold aJ;omega)
end Go.Mrl
namespace Go.Mrl
open Go.Vg
def se(e:D aC):Prop:=e.1.length<=20/\e.2.1.length<=8/\e.2.2.1.length<=40/\∀i,i<e.2.1.length->(nth aG e.2.1 i).1.length<=20
def xp(a:D bT):Prop:=a.2.1.length<=100/\a.2.2.1.length<=1300/\se a.2.2.2.2.2.1
def rH(l:List (D bT))(m:Int):Prop:=(l.length:Int)<=m/\∀i,i<l.length->xp (nth bT l i)
end Go.Mrl

namespace Go.Mrl
open Go.Vg
@[reducible] def cK:Ty:=.prod .str (.prod (.int .i64) .unit)
abbrev FE:=aD×(aD×Int×Unit)×Int×Unit
abbrev cG:=(Int×Unit)×(List FE×Int×Unit)×Unit
def qy(y:FE):Int:=y.2.2.1
def pB(y:FE):aD:=y.1
def aL(x:cG)(s:aD):aD×Int×Int:=
 if cZ cK x.2.1.1 s=true then((jc cK x.2.1.1 s).1,(jc cK x.2.1.1 s).2.1,0)else([],0,5)
def cL(x:cG)(s t:aD):cG×Int:=
 if ¬aP s=0 then(x,aP s)else if 1200<t.length then(x,2)
 else if(cZ cK x.2.1.1 s=false/\x.2.1.1.length=6)\/x.1.1=1000000 then(x,8)
 else(((x.1.1+1,()),(eZ cK x.2.1.1 s (t,x.1.1+1,()) x.2.1.2.1,mT cK x.2.1.1 s x.2.1.2.1,()),()),0)
def fL(x:cG)(s:aD):cG×Int:=
 if cZ cK x.2.1.1 s=true then((x.1,(fW cK x.2.1.1 s,x.2.1.2.1,()),()),0)else(x,5)
def qz:cG:=((0,()),([],0,()),())
def lN{x:cG}{s:aD}(h:cZ cK x.2.1.1 s=false):aL x s=([],0,5):=by unfold aL;rw[if_neg (by rw[h];simp)]
def pC{x:cG}{s:aD}(h:cZ cK x.2.1.1 s=true):aL x s=((jc cK x.2.1.1 s).1,(jc cK x.2.1.1 s).2.1,0):=by unfold aL;rw[if_pos h]
def xq{x:cG}{s t:aD}(h:¬aP s=0):cL x s t=(x,aP s):=by unfold cL;rw[if_pos h]
def xr{x:cG}{s t:aD}(h:aP s=0)(h1:1200<t.length):cL x s t=(x,2):=by unfold cL;rw[if_neg (by simp[h]),if_pos h1]
def xu{x:cG}{s t:aD}(h:aP s=0)(h1:¬1200<t.length)(h2:(cZ cK x.2.1.1 s=false/\x.2.1.1.length=6)\/x.1.1=1000000):cL x s t=(x,8):=by unfold cL;rw[if_neg (by simp[h]),if_neg h1,if_pos h2]
def Cj{x:cG}{s t:aD}(h:aP s=0)(h1:¬1200<t.length)(h2:¬((cZ cK x.2.1.1 s=false/\x.2.1.1.length=6)\/x.1.1=1000000)) :
  cL x s t=(((x.1.1+1,()),(eZ cK x.2.1.1 s (t,x.1.1+1,()) x.2.1.2.1,mT cK x.2.1.1 s x.2.1.2.1,()),()),0):=by unfold cL;rw[if_neg (by simp[h]),if_neg h1,if_neg h2]
def mz{x:cG}{s:aD}(h:cZ cK x.2.1.1 s=false):fL x s=(x,5):=by unfold fL;rw[if_neg (by rw[h];simp)]
def lE{x:cG}{s:aD}(h:cZ cK x.2.1.1 s=true):fL x s=((x.1,(fW cK x.2.1.1 s,x.2.1.2.1,()),()),0):=by unfold fL;rw[if_pos h]
theorem EL{α:Type}[DecidableEq α]:∀{a b:List α},a.Nodup->(∀y∈a,y∈b)->a.length<=b.length
 |[],_,_,_=>by simp
 |x :: a,b,hn,hs=>by
  have hn':=ch.1 hn;have h1:(b.erase x).length=b.length-1:=List.length_erase_of_mem (hs x (by simp));have h2:0<b.length:=List.length_pos_of_mem (hs x (by simp));have:=EL (b:=b.erase x) hn'.2 fun y hy=>(List.mem_erase_of_ne (fun(e:y=x)=>hn'.1 (by rw[<-e];exact hy))).2 (hs y (by simp[hy]))
  simp only[cj];omega
abbrev RF:=aD×aD×Int×Unit
abbrev RS:=List RF×Int×Unit
def yA(y:RF):aD:=y.1
def kr(s:aD)(y:RF):Bool:=!(y.1 == s)
def rr:List RF->aD->aD×Int×Int
 |[],_=>([],0,5)
 |y :: r,s=>if y.1=s then(y.2.1,y.2.2.1,0)else rr r s
def tH(s:aD)(e:RF):List RF->List RF
 |[]=>[e]
 |y :: r=>if(bu s y.1 || s == y.1)=true then e :: (y :: r).filter (kr s)else y :: tH s e r
def uk(x:RS)(s t:aD):RS×Int:=
 if ¬aP s=0 then(x,aP s)else if 1200<t.length then(x,2)
 else if(0<(rr x.1 s).2.2/\x.1.length=6)\/x.2.1=1000000 then(x,8)
 else((tH s (s,t,x.2.1+1,()) x.1,x.2.1+1,()),0)
def yB(x:RS)(s:aD):RS×Int:=if(x.1.filter (kr s)).length=x.1.length then(x,5)else((x.1.filter (kr s),x.2),0)
def sW(y:FE):RF:=(y.1,y.2.1.1,y.2.1.2.1,())
def um(L:List RF):Prop:=L.Pairwise fun a b=>pS a.1 b.1
structure gu (x:cG) (r:RS):Prop where
 now:r.2.1=x.1.1
 lo:0<=x.1.1
 hi:x.1.1<=1000000
 len:x.2.1.1.length<=6
 born:(x.2.1.1.map qy).Nodup
 old:∀y∈x.2.1.1,qy y<x.2.1.2.1
 HN:um r.1
 perm:r.1.Perm (x.2.1.1.map sW)
def gu.new:gu qz ([],0,()):=⟨rfl,az _,by decide,by decide,by decide,fun y hy=>by simp[qz]at hy,.nil,.refl _⟩
def xv{L:List RF}(h:um L):(L.map yA).Nodup:=by
 unfold List.Nodup;rw[List.pairwise_map];exact h.imp fun hlt e=>by unfold yA at e;rw[e]at hlt;exact pA _ hlt
def gu.names{x:cG}{r:RS}(h:gu x r):(x.2.1.1.map pB).Nodup:=by
 have h1:=(h.perm.map yA).nodup_iff.1 (xv h.HN);rw[dn]at h1;exact h1
def EM:∀{L:List RF} {s:aD},(L.map yA).Nodup->∀y∈L,y.1=s->rr L s=(y.2.1,y.2.2.1,0)
 |[],_,_,_,h,_=>by simp at h
 |z :: r,s,hn,y,hy,e=>by
  simp only[aj,ch]at hn;unfold rr;rcases ag.1 hy with rfl|hy
  ·rw[if_pos e]
  ·have:¬z.1=s:=fun e2=>hn.1 (by rw[show yA z=yA y from e2.trans e.symm];exact bw hy)
   rw[if_neg this];exact EM hn.2 y hy e
def HO:∀{L:List RF} {s:aD},(∀y∈L,¬y.1=s)->rr L s=([],0,5)
 |[],_,_=>rfl
 |z :: r,s,h=>by
  unfold rr;rw[if_neg (h z (by simp))];exact HO fun y hy=>h y (by simp[hy])
def l7:∀{es:List FE} {s:aD},cZ cK es s=true↔∃y∈es,y.1=s
 |[],_=>by simp[cZ]
 |z :: r,s=>by
  unfold cZ;by_cases c:z.1=s
  ·simp[c]
  ·rw[if_neg c,l7];simp[c]
def vq:∀{es:List FE} {s:aD},(es.map pB).Nodup->∀y∈es,y.1=s->jc cK es s=y.2.1
 |[],_,_,_,h,_=>by simp at h
 |z :: r,s,hn,y,hy,e=>by
  simp only[aj,ch]at hn;unfold jc;rcases ag.1 hy with rfl|hy
  ·rw[if_pos e]
  ·have:¬z.1=s:=fun e2=>hn.1 (by rw[show pB z=pB y from e2.trans e.symm];exact bw hy)
   rw[if_neg this];exact vq hn.2 y hy e
def gu.read{x:cG}{r:RS}(h:gu x r)(s:aD):aL x s=rr r.1 s:=by
 by_cases c:cZ cK x.2.1.1 s=true
 ·obtain⟨y,hy,e⟩:=l7.1 c
  rw[pC c,vq h.names y hy e];exact(EM (xv h.HN) (sW y) (h.perm.mem_iff.2 (bw hy)) e).symm
 ·rw[lN (by simpa using c)]
  refine(HO fun y hy e=>c ?_).symm;obtain⟨z,hz,rfl⟩:=bf.1 (h.perm.mem_iff.1 hy);exact l7.2 ⟨z,hz,e⟩
def lO{s:aD}{y:RF}:kr s y=true↔¬y.1=s:=by simp[kr]
def HP{s:aD}{e:RF}:∀{L:List RF} {y:RF},y∈tH s e L->y=e\/y∈L
 |[],y,h=>by simp[tH]at h;exact .inl h
 |z :: r,y,h=>by
  unfold tH at h;split at h
  ·rcases ag.1 h with h|h
   ·exact .inl h
   ·exact .inr (e8.1 h).1
  ·rcases ag.1 h with rfl|h
   ·exact .inr (by simp)
   ·rcases HP h with h|h
    ·exact .inl h
    ·exact .inr (by simp[h])
def not_le{s a:aD}(h:¬(bu s a || s == a)=true):pS a s:=by
 simp at h;exact xm (a:=a) (b:=s) (by unfold Ci pS;rw[h.1];simp) (fun e=>h.2 e.symm)
def zL{s:aD}{e:RF}(he:e.1=s):∀{L:List RF},um L->um (tH s e L)
 |[],_=>by simp[tH,um]
 |z :: r,h=>by
  have h':=c8.1 h;unfold tH;split
  ·rename_i c
   refine c8.2 ⟨fun y hy =>?_,h.filter _⟩;have hy':=e8.1 hy;have hn:=lO.1 hy'.2;have hz:Ci s z.1:=by
    simp at c;rcases c with c|rfl
    ·exact EI c
    ·exact HH _
   have hzy:Ci z.1 y.1:=by
    rcases ag.1 hy'.1 with e2|hy2
    ·rw[e2];exact HH _
    ·exact EI (h'.1 y hy2)
   rw[he];exact xm (PG hz hzy) (fun e2=>hn e2.symm)
  ·rename_i c
   have hlt:=not_le c;refine c8.2 ⟨fun y hy =>?_,zL he h'.2⟩;rcases HP hy with rfl|hy
   ·rw[he];exact hlt
   ·exact h'.1 y hy
def filter_all{s:aD}:∀{L:List RF},(∀y∈L,¬y.1=s)->L.filter (kr s)=L:=fun h=>List.filter_eq_self.2 fun y hy=>lO.2 (h y hy)
def EN{s:aD}{e:RF}:∀{L:List RF},um L->(tH s e L).Perm (e :: L.filter (kr s))
 |[],_ =>.refl _
 |z :: r,h=>by
  have h':=c8.1 h;unfold tH;split
  ·exact .refl _
  ·rename_i c
   have hlt:=not_le c;have hz:kr s z=true:=lO.2 fun e=>by rw[e]at hlt;exact pA _ hlt
   rw[ck,if_pos hz];exact((EN h'.2).cons z).trans (e9 e z _)
def xw{s:aD}{v:aD×Int×Unit}{c:Int}:∀{es:List FE},(es.map pB).Nodup->((eZ cK es s v c).map sW).Perm ((s,v.1,v.2.1,()) :: (es.map sW).filter (kr s))
 |[],_ =>.refl _
 |z :: r,hn=>by
  simp only[aj,ch]at hn;unfold eZ;by_cases e:z.1=s
  ·rw[if_pos e]
   have h1:kr s (sW z)=false:=by
    cases h:kr s (sW z)with
    |false=>rfl
    |true=>exact absurd e (lO.1 h)
   rw[aj,aj,ck,if_neg (by rw[h1];simp),filter_all]
   ·exact .refl _
   ·intro y hy e2
    obtain⟨z2,hz2,rfl⟩:=bf.1 hy;exact hn.1 (by rw[show pB z=pB z2 from e.trans (show s=z2.1 from e2.symm)];exact bw hz2)
  ·rw[if_neg e]
   have h1:kr s (sW z)=true:=lO.2 e;rw[aj,aj,ck,if_pos h1];exact((xw hn.2).cons (sW z)).trans (e9 _ _ _)
def sX{s:aD}{v:aD×Int×Unit}{c:Int}:∀{es:List FE},(eZ cK es s v c).map qy=if cZ cK es s=true then es.map qy else es.map qy++[c]
 |[]=>rfl
 |z :: r=>by
  unfold eZ cZ;by_cases e:z.1=s
  ·rw[if_pos e,if_pos e];rfl
  ·rw[if_neg e,if_neg e,aj,sX]
   split <;> rfl
def HQ{s:aD}:∀{es:List FE},(es.map pB).Nodup->(fW cK es s).map sW=(es.map sW).filter (kr s)
 |[],_=>rfl
 |z :: r,hn=>by
  simp only[aj,ch]at hn;unfold fW;by_cases e:z.1=s
  ·have h1:¬kr s (sW z)=true:=fun h=>lO.1 h e
   rw[if_pos e,aj,ck,if_neg h1,filter_all];intro y hy e2;obtain⟨z2,hz2,rfl⟩:=bf.1 hy;exact hn.1 (by rw[show pB z=pB z2 from e.trans (show s=z2.1 from e2.symm)];exact bw hz2)
  ·have h1:kr s (sW z)=true:=lO.2 e
   rw[if_neg e,aj,aj,ck,if_pos h1,HQ hn.2]
def qb{s:aD}:∀{es:List FE},(fW cK es s).Sublist es
 |[] =>.refl _
 |z :: r=>by
  unfold fW;split
  ·exact List.sublist_cons_self _ _
  ·exact qb.cons_cons _
def gu.has{x:cG}{r:RS}(h:gu x r)(s:aD):0<(rr r.1 s).2.2↔cZ cK x.2.1.1 s=false:=by
 rw[<-h.read s];cases c:cZ cK x.2.1.1 s with
 |true=>rw[pC c];simp
 |false=>rw[lN c];simp
def gu.write{x:cG}{r:RS}(h:gu x r)(s t:aD):gu (cL x s t).1 (uk r s t).1/\(cL x s t).2=(uk r s t).2:=by
 have hlen:r.1.length=x.2.1.1.length:=by rw[h.perm.length_eq,ec]
 have hc:((cZ cK x.2.1.1 s=false/\x.2.1.1.length=6)\/x.1.1=1000000)↔((0<(rr r.1 s).2.2/\r.1.length=6)\/r.2.1=1000000):=by rw[h.has,hlen,h.now]
 by_cases h1:aP s=0
 ·by_cases h2:1200<t.length
  ·rw[xr h1 h2]
   unfold uk;rw[if_neg (by simp[h1]),if_pos h2];exact⟨h,rfl⟩
  ·by_cases h3:(cZ cK x.2.1.1 s=false/\x.2.1.1.length=6)\/x.1.1=1000000
   ·rw[xu h1 h2 h3]
    unfold uk;rw[if_neg (by simp[h1]),if_neg h2,if_pos (hc.1 h3)];exact⟨h,rfl⟩
   ·rw[Cj h1 h2 h3]
    unfold uk;rw[if_neg (by simp[h1]),if_neg h2,if_neg (fun h'=>h3 (hc.2 h'))];refine⟨⟨by rw[h.now],by have:=h.lo;simp only;omega,by have:=h.hi;simp only;omega,?_,?_,?_,zL (s:=s) (e:=(s,t,r.2.1+1,())) rfl h.HN,?_⟩,rfl⟩
    ·have hp:=(xw (s:=s) (v:=(t,x.1.1+1,())) (c:=x.2.1.2.1) h.names).length_eq
     have hb:=congrArg bj (sX (s:=s) (v:=(t,x.1.1+1,())) (c:=x.2.1.2.1) (es:=x.2.1.1));simp only[ec]at hb;show(eZ cK x.2.1.1 s (t,x.1.1+1,()) x.2.1.2.1).length<=6;rw[hb];have:=h.len;cases c:cZ cK x.2.1.1 s with
     |true=>simpa using this
     |false=>
      have:¬x.2.1.1.length=6:=fun e=>h3 (.inl ⟨c,e⟩)
      simp;omega
    ·show((eZ cK x.2.1.1 s (t,x.1.1+1,()) x.2.1.2.1).map qy).Nodup
     rw[sX];split
     ·exact h.born
     ·rw[fb]
      refine⟨h.born,by simp,fun a ha b hb e =>?_⟩;simp at hb;obtain⟨y,hy,rfl⟩:=bf.1 ha;have:=h.old y hy;omega
    ·intro y hy
     have hy':qy y∈(eZ cK x.2.1.1 s (t,x.1.1+1,()) x.2.1.2.1).map qy:=bw hy;rw[sX]at hy';show qy y<mT cK x.2.1.1 s x.2.1.2.1;unfold mT;split at hy'
     ·rename_i c
      rw[if_pos c];obtain⟨z,hz,e⟩:=bf.1 hy';rw[<-e];exact h.old z hz
     ·rename_i c
      rw[if_neg c];rcases au.1 hy' with hy'|hy'
      ·obtain⟨z,hz,e⟩:=bf.1 hy'
       have:=h.old z hz;omega
      ·simp at hy';omega
    ·refine(EN h.HN).trans ?_
     rw[h.now];exact((h.perm.filter _).cons _).trans (xw (v:=(t,x.1.1+1,())) (c:=x.2.1.2.1) h.names).symm
 ·rw[xq h1]
  unfold uk;rw[if_pos h1];exact⟨h,rfl⟩
def gu.remove{x:cG}{r:RS}(h:gu x r)(s:aD):gu (fL x s).1 (yB r s).1/\(fL x s).2=(yB r s).2:=by
 have hp:(r.1.filter (kr s)).Perm ((fW cK x.2.1.1 s).map sW):=by rw[HQ h.names];exact h.perm.filter _
 cases c:cZ cK x.2.1.1 s with
 |false=>
  have hall:r.1.filter (kr s)=r.1:=filter_all fun y hy e=>by
   obtain⟨z,hz,rfl⟩:=bf.1 (h.perm.mem_iff.1 hy);have:=l7.2 ⟨z,hz,e⟩;rw[c]at this;cases this
  rw[mz c];unfold yB;rw[if_pos (by rw[hall])];exact⟨h,rfl⟩
 |true=>
  obtain⟨y,hy,e⟩:=l7.1 c;have hlt:(r.1.filter (kr s)).length<r.1.length:=List.length_filter_lt_length_iff_exists.2 ⟨sW y,h.perm.mem_iff.2 (bw hy),by rw[lO];exact fun h=>h e⟩;rw[lE c];unfold yB;rw[if_neg (by omega)];refine⟨⟨h.now,h.lo,h.hi,b5 qb.length_le h.len,(qb.map qy).nodup h.born,fun y hy=>h.old y (qb.subset hy),List.Pairwise.filter _ h.HN,hp⟩,rfl⟩
def sf:aD:=[119,114,105,116,101]
def gu.pre{x:cG}{r:RS}(h:gu x r):x.2.1.1.length<=6/\0<=x.1.1/\x.1.1<=1000000:=⟨h.len,h.lo,h.hi⟩
def uo:aD:=[114,101,109,111,118,101]
def mL(x:cG)(a:D bT):cG:=if a.1=sf then(cL x a.2.1 a.2.2.1).1 else if a.1=uo then(fL x a.2.1).1 else x
def jh(x:cG)(l:List (D bT)):cG:=l.foldl mL x
def vr{x:cG}{l:List (D bT)}{i:Nat}(h:i<l.length):jh x (l.take (i+1))=mL (jh x (l.take i)) (nth bT l i):=by rw[lM (t:=bT) h];simp[jh]
def Km{x:cG}{a:D bT}(h:a.1=sf):mL x a=(cL x a.2.1 a.2.2.1).1:=if_pos h
def HR{x:cG}{a:D bT}(h:¬a.1=sf)(h2:a.1=uo):mL x a=(fL x a.2.1).1:=by unfold mL;rw[if_neg h,if_pos h2]
def M5{x:cG}{a:D bT}(h:¬a.1=sf)(h2:¬a.1=uo):mL x a=x:=by unfold mL;rw[if_neg h,if_neg h2]
structure dH (x:cG):Prop where
 eP:∃r,gu x r
 M6:∀y∈x.2.1.1,y.2.1.2.1<=x.1.1
def dH.new:dH qz:=⟨⟨_,gu.new⟩,fun y hy=>by simp[qz]at hy⟩
def HS{s:aD}{v:aD×Int×Unit}{c:Int}:∀{es:List FE} {y:FE},y∈eZ cK es s v c->y.2.1=v\/y∈es
 |[],y,h=>by simp[eZ]at h;subst h;exact .inl rfl
 |z :: r,y,h=>by
  unfold eZ at h;split at h
  ·rcases ag.1 h with rfl|h
   ·exact .inl rfl
   ·exact .inr (by simp[h])
  ·rcases ag.1 h with rfl|h
   ·exact .inr (by simp)
   ·rcases HS h with h|h
    ·exact .inl h
    ·exact .inr (by simp[h])
def mn(x:cG)(s t:aD):((cL x s t).1=x/\¬(cL x s t).2=0)\/
  ((cL x s t).1=((x.1.1+1,()),(eZ cK x.2.1.1 s (t,x.1.1+1,()) x.2.1.2.1,mT cK x.2.1.1 s x.2.1.2.1,()),())/\(cL x s t).2=0):=by
 unfold cL;split
 ·rename_i h;exact .inl ⟨rfl,h⟩
 ·split
  ·exact .inl ⟨rfl,by simp⟩
  ·split
   ·exact .inl ⟨rfl,by simp⟩
   ·exact .inr ⟨rfl,rfl⟩
def dH.write{x:cG}(h:dH x)(s t:aD):dH (cL x s t).1/\x.1.1<=(cL x s t).1.1.1:=by
 obtain⟨r,hr⟩:=h.eP;have hg:=(hr.write s t).1;rcases mn x s t with⟨e,_⟩|⟨e,_⟩
 ·rw[e];exact⟨h,az _⟩
 ·rw[e]at hg ⊢
  refine⟨⟨⟨_,hg⟩,fun y hy =>?_⟩,by simp only;omega⟩;rcases HS hy with hy|hy
  ·rw[hy];exact az _
  ·have:=h.M6 y hy;simp only;omega
def dH.remove{x:cG}(h:dH x)(s:aD):dH (fL x s).1/\x.1.1<=(fL x s).1.1.1:=by
 obtain⟨r,hr⟩:=h.eP;have hg:=(hr.remove s).1;cases c:cZ cK x.2.1.1 s with
 |false=>rw[mz c];exact⟨h,az _⟩
 |true=>
  rw[lE c]at hg ⊢;exact⟨⟨⟨_,hg⟩,fun y hy=>h.M6 y (qb.subset hy)⟩,az _⟩
def dH.mL{x:cG}(h:dH x)(a:D bT):dH (mL x a)/\x.1.1<=(Mrl.mL x a).1.1:=by
 unfold Mrl.mL;split
 ·exact h.write _ _
 ·split
  ·exact h.remove _
  ·exact⟨h,az _⟩
def dH.done:∀(l:List (D bT)) {x:cG},dH x->dH (jh x l)
 |[],_,h=>h
 |a :: l,_,h=>dH.done l (h.mL a).1
def M7{x:cG}(h:dH x){s:aD}(hn:(aI (aL x s).2.2).isNil=true):(aL x s).2.1<=x.1.1:=by
 have hc:=aQ.1 hn;cases c:cZ cK x.2.1.1 s with
 |false=>rw[lN c]at hc;simp at hc
 |true=>
  obtain⟨r,hr⟩:=h.eP;obtain⟨y,hy,e⟩:=l7.1 c;rw[pC c,vq hr.names y hy e];exact h.M6 y hy
def sg{s k:aD}{v:aD×Int×Unit}{c:Int}:∀{es:List FE},cZ cK (eZ cK es s v c) k=(decide (k=s) || cZ cK es k)/\jc cK (eZ cK es s v c) k=if k=s then v else jc cK es k
 |[]=>by
  by_cases h:s=k
  ·subst h;simp[eZ,cZ,jc]
  ·have h':¬k=s:=fun e=>h e.symm
   simp[eZ,cZ,jc,h,h']
 |z :: r=>by
  obtain⟨i1,i2⟩:=sg (s:=s) (k:=k) (v:=v) (c:=c) (es:=r);unfold eZ;by_cases e:z.1=s
  ·rw[if_pos e]
   by_cases h:s=k
   ·subst h;simp[cZ,jc]
   ·have h':¬k=s:=fun e=>h e.symm
    have h2:¬z.1=k:=fun e2=>h (e.symm.trans e2)
    simp[cZ,jc,h,h',h2]
  ·rw[if_neg e]
   by_cases h:z.1=k
   ·have h':¬k=s:=fun e2=>e (h.trans e2)
    simp[cZ,jc,h,h']
   ·simp only[cZ,jc,if_neg h];exact⟨i1,i2⟩
def M8{x:cG}{s k t:aD}(h:¬k=s):aL (cL x s t).1 k=aL x k:=by
 rcases mn x s t with⟨e,_⟩|⟨e,_⟩
 ·rw[e]
 ·rw[e]
  unfold aL;simp only[(sg (s:=s) (k:=k) (v:=(t,x.1.1+1,())) (c:=x.2.1.2.1) (es:=x.2.1.1)).1,(sg (s:=s) (k:=k) (v:=(t,x.1.1+1,())) (c:=x.2.1.2.1) (es:=x.2.1.1)).2,h,decide_false,Bool.false_or,if_false]
def PM{x:cG}{s t:aD}(h:(aI (cL x s t).2).isNil=true):aL (cL x s t).1 s=(t,x.1.1+1,0):=by
 rcases mn x s t with⟨_,e⟩|⟨e,_⟩
 ·exact absurd (aQ.1 h) e
 ·rw[e]
  unfold aL;simp only[(sg (s:=s) (k:=s) (v:=(t,x.1.1+1,())) (c:=x.2.1.2.1) (es:=x.2.1.1)).1,(sg (s:=s) (k:=s) (v:=(t,x.1.1+1,())) (c:=x.2.1.2.1) (es:=x.2.1.1)).2];simp
def PN{x:cG}{s t:aD}(h:(aI (cL x s t).2).isNil=false):(cL x s t).1=x:=by
 rcases mn x s t with⟨e,_⟩|⟨_,e⟩
 ·exact e
 ·rw[e]at h;cases h
def dH.pre{x:cG}(h:dH x):x.2.1.1.length<=6/\0<=x.1.1/\x.1.1<=1000000:=let⟨_,hr⟩:=h.eP;hr.pre
def _root_.Go.Vg.HT:List UInt8->UInt8
 |c :: _=>c
 |[]=>0
def nI(c:UInt8):List aD->aD
 |[]=>[]
 |[x]=>x
 |x :: y :: r=>x++c :: nI c (y :: r)
def parts(c:UInt8):aD->List aD
 |[]=>[[]]
 |b :: r=>if b=c then[] :: parts c r else match parts c r with
  |h :: t=>(b :: h) :: t
  |[]=>[[b]]
def AS(c:UInt8):∀s:aD,parts c s≠[]
 |[]=>by simp[parts]
 |b :: r=>by
  unfold parts;split
  ·simp
  ·split <;> simp
def mo{c b:UInt8}{r:aD}(h:b≠c):∃x t,parts c r=x :: t/\parts c (b :: r)=(b :: x) :: t:=by
 cases hp:parts c r with
 |nil=>exact absurd hp (AS c r)
 |cons x t=>
  refine⟨x,t,rfl,?_⟩
  conv=>lhs;unfold parts
  rw[if_neg h,hp]
def oF{c:UInt8}{r:aD}:parts c (c :: r)=[] :: parts c r:=by
 conv=>lhs;unfold parts
 rw[if_pos rfl]
def lP{c:UInt8}:∀{x:aD},c∉x->parts c x=[x]
 |[],_=>rfl
 |b :: r,h=>by
  obtain⟨x,t,h1,h2⟩:=mo (c:=c) (b:=b) (r:=r) (fun e=>h (by simp[e]));rw[lP (x:=r) (fun e=>h (by simp[e]))]at h1;cases h1;exact h2
def ij{c:UInt8}:∀{x:aD} {s:aD},c∉x->parts c (x++c :: s)=x :: parts c s
 |[],s,_=>oF
 |b :: r,s,h=>by
  obtain⟨x,t,h1,h2⟩:=mo (c:=c) (b:=b) (r:=r++c :: s) (fun e=>h (by simp[e]));rw[ij (x:=r) (fun e=>h (by simp[e]))]at h1;cases h1;exact h2
def tI{c:UInt8}:∀{L:List aD},L≠[]->(∀y∈L,c∉y)->parts c (nI c L)=L
 |[],h,_=>absurd rfl h
 |[x],_,h=>lP (h x (by simp))
 |x :: y :: r,_,h=>by
  show parts c (x++c :: nI c (y :: r))=_;rw[ij (h x (by simp)),tI (by simp) fun z hz=>h z (cd _ hz)]
def sY(c:UInt8):∀(s:aD),(parts c s).length<=s.length+1
 |[]=>by simp[parts]
 |b :: r=>by
  by_cases h:b=c
  ·subst h;rw[oF];have:=sY b r;simp;omega
  ·obtain⟨x,t,h1,h2⟩:=mo (c:=c) (b:=b) (r:=r) h
   have:=sY c r;rw[h1]at this;rw[h2];simp at this ⊢;omega
def oO(c:UInt8):∀(s:aD),∀y∈parts c s,y.length<=s.length
 |[],y,h=>by simp[parts]at h;simp[h]
 |b :: r,y,h=>by
  by_cases hb:b=c
  ·subst hb;rw[oF]at h
   rcases ag.1 h with rfl|h
   ·simp
   ·have:=oO b r y h;simp;omega
  ·obtain⟨x,t,h1,h2⟩:=mo (c:=c) (b:=b) (r:=r) hb
   rw[h2]at h;rcases ag.1 h with rfl|h
   ·have:=oO c r x (by rw[h1];simp);simp;omega
   ·have:=oO c r y (by rw[h1];simp[h]);simp;omega
def xx{b c:UInt8}{l:aD}(h:b≠c):bm (b :: l) [c]=if bm l [c] == -1 then -1 else bm l [c]+1:=by
 rw[bm];simp[cm,Ne.symm h]
def xy{c:UInt8}{l:aD}:bm (c :: l) [c]=0:=by
 rw[bm];simp[cm]
def sh(c:UInt8):∀s:aD,cn [c] 0 (s.count c) s=parts c s
 |[]=>rfl
 |b :: l=>by
  by_cases h:b=c
  ·subst h
   rw[oF,List.count_cons_self,cn,xy,if_neg (by decide),<-sh b l];simp
  ·obtain⟨x,t,h1,h2⟩:=mo (c:=c) (b:=b) (r:=l) h
   rw[h2,List.count_cons_of_ne h];rw[<-sh c l]at h1;cases hk:l.count c with
   |zero=>
    rw[hk]at h1;simp only[cn]at h1 ⊢;cases h1;rfl
   |succ k=>
    rw[hk]at h1;have hi:bm l [c]≠-1:=by
     intro e;have:=Lib.count_miss (s:=l) (sub:=[c]) e;rw[Lib.count_one]at this;omega
    have hge:=Lib.index_ge l [c];rw[cn,if_neg (by simpa using hi)]at h1;obtain⟨i,e⟩:∃i:Nat,bm l [c]=i:=⟨(bm l [c]).toNat,by omega⟩
    have e2:bm (b :: l) [c]=((i+1:Nat):Int):=by rw[xx h,if_neg (by simpa using hi),e];rfl
    rw[cn,e2,if_neg (by simp;omega)];rw[e]at h1;simp only[dv,Nat.add_zero,da,fc,List.drop_succ_cons,List.cons.injEq]at h1 ⊢;exact⟨⟨aa,h1.1⟩,h1.2⟩
def re(c:UInt8)(L:List aD):aD:=L.flatMap (· ++ [c])
def EO(c:UInt8)(x:aD)(L:List aD):re c (x :: L)=x++c :: re c L:=by simp[re]
def EP{c:UInt8}:∀{L:List aD},L≠[]->re c L=nI c L++[c]
 |[],h=>absurd rfl h
 |[x],_=>by simp[re,nI]
 |x :: y :: r,_=>by
  rw[EO,EP (L:=y :: r) (by simp)];simp[nI]
def uq(x:aD)(c:UInt8):ae (x++[c]) [c]=x:=by
 have h:Lib.hasSuffix (x++[c]) [c]=true:=by unfold Lib.hasSuffix;simp[List.isSuffixOf_iff_suffix]
 unfold ae;rw[if_pos h];simp
def M9{c:UInt8}{L:List aD}(h:L≠[])(hf:∀y∈L,c∉y):parts c (ae (re c L) [c])=L:=by
 rw[EP h,uq,tI h hf]
def xz{k:Nat}(h:k<10):(ed (48+k)).toNat=48+k:=by
 rw[er];omega
def pD:∀(u:Nat),∀c∈ay u,48<=c.toNat/\c.toNat<=57:=by
 intro u;induction u using fe with
 |_ u ih=>
  intro c hc;by_cases h:u<10
  ·rw[ay,dif_pos h]at hc
   simp only[db]at hc;rw[hc,xz h];omega
  ·rw[ay,dif_neg h]at hc
   rcases au.1 hc with hc|hc
   ·exact ih _ (by omega) c hc
   ·simp only[db]at hc
    rw[hc,xz (Nat.mod_lt _ (by decide))];omega
def xA(u:Nat):ay u≠[]:=by
 rw[ay];split <;> simp
def oG:∀(k u:Nat),u<10^(k+1)->(ay u).length<=k+1
 |0,u,h=>by rw[ay,dif_pos (by simpa using h)];simp
 |k+1,u,h=>by
  rw[ay];split
  ·simp
  ·have:=oG k (u / 10) (by rw[Nat.pow_succ]at h;omega)
   simp;exact this
def ER:∀(l:aD) (c:UInt8) (a v:Nat),bo a l=.ok v->bo a (l++[c])=bo v [c]
 |[],c,a,v,h=>by simp[bo]at h;rw[h];rfl
 |b :: l,c,a,v,h=>by
  rw[ee,bo];rw[bo]at h;split at h
  ·rename_i hb
   rw[if_pos hb];split at h
   ·cases h
   ·rename_i h1
    rw[if_neg h1];split at h
    ·cases h
    ·rename_i h2
     rw[if_neg h2];exact ER l c _ v h
  ·cases h
def HU{v d:Nat}(hd:d<10)(h:10*v+d<18446744073709551616):bo v [ed (48+d)]=.ok (10*v+d):=by
 unfold bo;rw[xz hd,if_pos (by omega),if_neg (by omega),if_neg (by omega)];unfold bo;congr 1;omega
def Te:∀u:Nat,u<18446744073709551616->bo 0 (ay u)=.ok u:=by
 intro u;induction u using fe with
 |_ u ih=>
  intro hu;by_cases h:u<10
  ·rw[ay,dif_pos h]
   have:=HU (v:=0) (d:=u) h (by omega);simpa using this
  ·rw[ay,dif_neg h,ER _ _ _ _ (ih _ (by omega) (by omega)),HU (Nat.mod_lt _ (by decide)) (by omega)]
   congr 1;omega
def Lx{u:Nat}(hu:u<18446744073709551616):Lib.parseMag (ay u)=.ok u:=by
 unfold Lib.parseMag;rw[if_neg (xA u),Te u hu]
def PO{n:Int}(h0 : -9223372036854775808<=n)(h1:n<=9223372036854775807):b6 (ab n)=.ok n:=by
 by_cases hn:n<0
 ·have hm:=Lx (u:=n.natAbs) (by omega)
  simp only[ab,if_pos hn,b6];rw[if_pos (Or.inr (by decide)),hm];simp only;rw[if_neg (by simp),if_neg (by simp;omega)];simp;omega
 ·have hm:=Lx (u:=n.toNat) (by omega)
  simp only[ab,if_neg hn,b6];cases hd:ay n.toNat with
  |nil=>exact absurd hd (xA _)
  |cons c r=>
   have hc:=pD n.toNat c (by rw[hd];simp);rw[hd]at hm;simp only;rw[if_neg (by omega),hm];simp only;rw[if_neg (by omega),if_neg (by omega),if_neg (by omega)];congr 1;omega
def eD(s:List UInt8):Int×aK:=match b6 s with
 |.ok n=>(n,.nil)
 |Lib.NumEnd.syntax=>(0,.other)
 |.range=>(Lib.atoiSat s,.other)
def cT(s:aD):Option Int:=match b6 s with
 |.ok n=>if ab n=s then some n else none
 |_=>none
def PQ{n:Int}(h0 : -9223372036854775808<=n)(h1:n<=9223372036854775807):cT (ab n)=some n:=by
 unfold cT;rw[PO h0 h1];simp
def qO{s:aD}:(cT s).isNone=(!(eD s).2.isNil || !decide (ab (eD s).1=s)):=by
 unfold cT eD;cases b6 s with
 |ok v=>simp only[aK.isNil];by_cases h:ab v=s <;> simp[h]
 |range=>rfl
 |_=>rfl
def ES{n:Int}{c:UInt8}(h:c.toNat<=44):c∉ab n:=by
 intro hc;have h45:(45:UInt8).toNat=45:=rfl;unfold ab at hc;split at hc
 ·rcases ag.1 hc with rfl|hc
  ·omega
  ·have:=pD _ c hc;omega
 ·have:=pD _ c hc;omega
def mD(n:Int):Nat:=2*n.natAbs+(if n<0 then 1 else 0)
def XS{n:Int}(h:n<0):mD (-n)<mD n:=by unfold mD;rw[if_neg (by omega),if_pos h];omega
def PR{n:Int}(h:n<0):ab n=[45]++ab (-n):=by
 unfold ab;rw[if_pos h,if_neg (by omega)];congr 2;omega
def AT{n:Int}(h:0<=n)(h':n<10):ab n=[ed (48+n).toNat]:=by
 unfold ab;rw[if_neg (by omega),ay,dif_pos (by omega)];congr 2;omega
def nf{f:Int}(h0:0<=f)(h:(aI f).isNil=false):f > 0:=by
 have:¬f=0:=fun e=>by rw[aQ.2 e]at h;cases h
 omega
def dI{f:Int}(h:(aI f).isNil=true):f<=0:=by
 have:=aQ.1 h;omega
def ET{t:Ty}{l:List (D t)}{i j:Nat}(h:j<i):nth t (ai 0 (ah i l)) j=nth t l j:=by
 rw[ef,AP h]
def EU{α:Type}{l:List α}{i:Nat}(h:i<=l.length):(ai 0 (ah i l)).length=i:=by
 rw[ef,bh];omega
def iO(b:Bool):List UInt8:=if b=true then[119,101,97,107,32]else[]
def yC(s:aD):aD:=[110,101,101,100,32]++s++[10]
def vt(n:Int):aD:=[119,111,114,100,32]++ab n++[10]
def DB(y:D aS):aD:=iO y.2.2.1++[115,121,109,98,111,108,32]++y.1++[32]++ab y.2.1++[10]
def tJ(t:D bD):aD:=
 if t.2.1=1 then[98,97,115,101,32]++ab t.1++[32]++ab t.2.2.1++[10]
 else if t.2.1=2 then iO t.2.2.2.2.1++[119,104,111,108,101,32]++ab t.1++[32]++ab t.2.2.1++[32]++t.2.2.2.1++[10]
 else iO t.2.2.2.2.1++[110,101,97,114,32]++ab t.1++[32]++ab t.2.2.1++[32]++t.2.2.2.1++[10]
def pE(o:D aB)(i:Nat):aD:=(o.1.take i).flatMap yC
def nV(o:D aB)(i:Nat):aD:=pE o o.1.length++(o.2.1.take i).flatMap vt
def nW(o:D aB)(i:Nat):aD:=nV o o.2.1.length++(o.2.2.1.take i).flatMap DB
def jC(o:D aB)(i:Nat):aD:=nW o o.2.2.1.length++(o.2.2.2.1.take i).flatMap tJ
def iP(o:D aB):aD:=jC o o.2.2.2.1.length
def ku(o:D aB):aD×aK:=if dB o≠0 then([],aI (dB o))else if(iP o).length > 1200 then([],.no 2)else(iP o,.nil)
def PS{o:D aB}{i:Nat}(h:i<o.1.length):pE o (i+1)=pE o i++yC (nth .str o.1 i):=by
 unfold pE;rw[iM (t:=.str) h];simp
def PT{o:D aB}{i:Nat}(h:i<o.2.1.length):nV o (i+1)=nV o i++vt (nth (.int .i64) o.2.1 i):=by
 unfold nV;rw[iM (t:=.int .i64) h];simp
def PU{o:D aB}{i:Nat}(h:i<o.2.2.1.length):nW o (i+1)=nW o i++DB (nth aS o.2.2.1 i):=by
 unfold nW;rw[iM (t:=aS) h];simp
def xB{o:D aB}{i:Nat}(h:i<o.2.2.2.1.length):jC o (i+1)=jC o i++tJ (nth bD o.2.2.2.1 i):=by
 unfold jC;rw[iM (t:=bD) h];simp
def PV(o:D aB):nV o 0=pE o o.1.length:=by unfold nV;simp
def PW(o:D aB):nW o 0=nV o o.2.1.length:=by unfold nW;simp
def PX(o:D aB):jC o 0=nW o o.2.2.1.length:=by unfold jC;simp
def Nm(s:aD):Prop:=s≠[]/\s.length<=8/\∀c∈s,c≠10/\c≠32
def iv(a b x:Int):Prop:=a<=x/\x<=b
structure Ck (t:D bD):Prop where
 a:iv 0 39 t.1
 w:iv (-2147483648) 2147483647 t.2.2.1
 k:t.2.1=1\/t.2.1=2\/t.2.1=3
 base:t.2.1=1->t.2.2.2.1=[]/\t.2.2.2.2.1=false
 nm:t.2.1≠1->Nm t.2.2.2.1
structure la (o:D aB):Prop where
 n4:o.1.length<=4
 w1:1<=o.2.1.length
 US:o.2.1.length<=40
 s8:o.2.2.1.length<=8
 t6:o.2.2.2.1.length<=6
 GC:∀s∈o.1,Nm s
 words:∀n∈o.2.1,iv (-2147483648) 2147483647 n
 syms:∀y∈o.2.2.1,Nm y.1/\iv 0 39 y.2.1
 Na:∀t∈o.2.2.2.1,Ck t
def zM:∀(l p:List aD),jB p l=0->∀s∈l,aP s=0
 |[],_,_,s,h=>absurd h (by simp)
 |x :: r,p,h,s,hs=>by
  have hx:=fA x;unfold jB at h;split at h
  ·omega
  ·split at h
   ·cases h
   ·rcases ag.1 hs with rfl|hs
    ·omega
    ·exact zM r _ h s hs
def zN:∀(l:List Int),kS l=0->∀n∈l,im n=true
 |[],_,s,h=>absurd h (by simp)
 |x :: r,h,s,hs=>by
  unfold kS at h;split at h
  ·rename_i hx
   rcases ag.1 hs with rfl|hs
   ·exact hx
   ·exact zN r h s hs
  ·cases h
def Cm(n:Nat):∀(l p:List (D aS)),iq n p l=0->∀y∈l,aP y.1=0/\iv 0 (n-1) y.2.1
 |[],_,_,s,h=>absurd h (by simp)
 |x :: r,p,h,s,hs=>by
  have hx:=fA x.1;unfold iq at h;split at h
  ·omega
  ·split at h
   ·cases h
   ·rename_i h2
    split at h
    ·cases h
    ·rcases ag.1 hs with rfl|hs
     ·exact⟨by omega,ao.1 fun e=>h2 (.inl e),fg (cp.1 fun e=>h2 (.inr e))⟩
     ·exact Cm n r _ h s hs
def EV{n:Nat}{p:Option Int}{t:D bD}(h:nc n p t=0) :
  iv 0 (n-1) t.1/\im t.2.2.1=true/\iv 1 3 t.2.1/\(t.2.1=1->t.2.2.2.1=[]/\t.2.2.2.2.1=false)/\(t.2.1≠1->aP t.2.2.2.1=0):=by
 unfold nc at h;split at h
 ·cases h
 ·rename_i h1
  split at h
  ·cases h
  ·rename_i h2
   refine⟨⟨ao.1 fun e=>h1 (.inl e),fg (cp.1 fun e=>h1 (.inr (.inl e)))⟩,?_,⟨ao.1 fun e=>h2 (.inl e),ao.1 fun e=>h2 (.inr (.inl e))⟩,?_,?_⟩
   ·cases hw:im t.2.2.1 with
    |true=>rfl
    |false=>exact absurd (.inr (.inr hw)) h1
   ·intro e
    rw[if_pos e]at h;split at h
    ·cases h
    ·rename_i h3
     refine⟨aq fun e=>h3 (.inl e),?_⟩;cases hb:t.2.2.2.2.1 with
     |false=>rfl
     |true=>exact absurd (.inr hb) h3
   ·intro e
    rw[if_neg e]at h;exact h
def vu(n:Nat):∀(l:List (D bD)) (p:Option Int),kT n p l=0->∀t∈l,∃p,nc n p t=0
 |[],_,_,s,h=>absurd h (by simp)
 |x :: r,p,h,s,hs=>by
  unfold kT at h;split at h
  ·rename_i h0;exact absurd h h0
  ·rename_i h0
   rcases ag.1 hs with rfl|hs
   ·exact⟨p,aq h0⟩
   ·exact vu n r _ h s hs
def Cn{s:aD}(h:aP s=0):Nm s:=by
 unfold aP at h;split at h
 ·cases h
 ·rename_i hl
  split at h
  ·cases h
  ·rename_i hb
   refine⟨by rintro rfl;simp at hl,by omega,fun c hc =>?_⟩;obtain⟨i,hi,rfl⟩:=dw hc;have hn:ko i (dW s i)=false:=by
    unfold ui at hb;rw[fh,cy]at hb;have:=hb i (by simpa using hi);simpa using this
   have he:dW s i=s[i]:=by unfold dW;simp[hi]
   rw[he]at hn;constructor
   ·intro e;rw[e]at hn;unfold ko small other at hn;simp at hn
   ·intro e;rw[e]at hn;unfold ko small other at hn;simp at hn
def three{x:Int}(h:1<=x)(h':x<=3):x=1\/x=2\/x=3:=by omega
def ng{o:D aB}(h:dB o=0):la o:=by
 unfold dB at h;split at h
 ·cases h
 ·rename_i hm
  split at h
  ·rename_i h1;exact absurd h h1
  ·rename_i h1
   split at h
   ·rename_i h2;exact absurd h h2
   ·rename_i h2
    split at h
    ·rename_i h3;exact absurd h h3
    ·rename_i h3
     have h1:=aq h1;have h2:=aq h2;have h3:=aq h3;unfold l5 at hm;have hw:o.2.1.length<=40:=bc.1 fun e=>hm (.inr (.inr (.inl e)))
     refine⟨bc.1 fun e=>hm (.inl e),bc.1 fun e=>hm (.inr (.inl e)),hw,bc.1 fun e=>hm (.inr (.inr (.inr (.inl e)))),bc.1 fun e=>hm (.inr (.inr (.inr (.inr e)))),
      fun s hs=>Cn (zM _ _ h1 s hs),fun n hn =>?_,fun y hy =>?_,fun t ht =>?_⟩
     ·have:=zN _ h2 n hn
      unfold im at this;simp only[af,decide_eq_true_eq]at this;exact this
     ·obtain⟨a,b,c⟩:=Cm _ _ _ h3 y hy
      exact⟨Cn a,b,b7 c (by omega)⟩
     ·obtain⟨p,hp⟩:=vu _ _ _ h t ht
      obtain⟨⟨a,b⟩,c,⟨d,e⟩,f,g⟩:=EV hp;unfold im at c;simp only[af,decide_eq_true_eq]at c;exact⟨⟨a,b7 b (by omega)⟩,c,three d e,f,fun e=>Cn (g e)⟩
def dJ{a b n:Int}(h:iv a b n)(ha : -999999999999999999<=a)(hb:b<=999999999999999999):(ab n).length<=19:=by
 obtain⟨h0,h1⟩:=h;unfold ab;split
 ·rw[cj]
  have:=oG 17 n.natAbs (by omega);omega
 ·have:=oG 17 n.toNat (by omega)
  omega
def sZ(b:Bool):(iO b).length<=5:=by cases b <;> decide
def PY{s:aD}(h:Nm s):(yC s).length<=64:=by have:=h.2.1;simp[yC];omega
def PZ{n:Int}(h:iv (-2147483648) 2147483647 n):(vt n).length<=64:=by have:=dJ h (by decide) (by decide);simp[vt];omega
def Tf{y:D aS}(h:Nm y.1/\iv 0 39 y.2.1):(DB y).length<=64:=by
 have h1:=dJ h.2 (by decide) (by decide);have h2:=sZ y.2.2.1;have h3:=h.1.2.1;simp[DB];omega
def Tg{t:D bD}(h:Ck t):(tJ t).length<=64:=by
 have h1:=dJ h.a (by decide) (by decide);have h4:=dJ h.w (by decide) (by decide);have h2:=sZ t.2.2.2.2.1;unfold tJ;split
 ·simp;omega
 ·rename_i hk
  have h3:=(h.nm hk).2.1;split
  ·simp;omega
  ·simp;omega
def oP{α:Type}{f:α->aD}:∀{l:List α},(∀x∈l,(f x).length<=64)->(l.flatMap f).length<=64*l.length
 |[],_=>by simp
 |x :: r,h=>by
  have h1:=h x (by simp);have h2:=oP (f:=f) (l:=r) fun y hy=>h y (cd _ hy)
  rw[bx,aw,cj];omega
def la.HV{o:D aB}(h:la o)(i:Nat):(pE o i).length<=1000:=by
 have:=oP (f:=yC) (l:=o.1.take i) fun s hs=>PY (h.GC s (b8 hs))
 have h2:=h.n4;unfold pE;simp only[bh]at this;omega
def la.AU{o:D aB}(h:la o)(i:Nat):(nV o i).length<=4000:=by
 have h0:=h.HV o.1.length;have:=oP (f:=vt) (l:=o.2.1.take i) fun s hs=>PZ (h.words s (b8 hs))
 have h2:=h.US;unfold nV;rw[aw];simp only[bh]at this;omega
def la.WU{o:D aB}(h:la o)(i:Nat):(nW o i).length<=5000:=by
 have h0:=h.AU o.2.1.length;have:=oP (f:=DB) (l:=o.2.2.1.take i) fun s hs=>Tf (h.syms s (b8 hs))
 have h2:=h.s8;unfold nW;rw[aw];simp only[bh]at this;omega
def la.XM{o:D aB}(h:la o)(i:Nat):(jC o i).length<=6000:=by
 have h0:=h.WU o.2.2.1.length;have:=oP (f:=tJ) (l:=o.2.2.2.1.take i) fun s hs=>Tg (h.Na s (b8 hs))
 have h2:=h.t6;unfold jC;rw[aw];simp only[bh]at this;omega
def la.xC{o:D aB}(h:la o){i:Nat}(hi:i<o.1.length):Nm (nth .str o.1 i):=h.GC _ (dN (t:=.str) hi)
def la.word{o:D aB}(h:la o){i:Nat}(hi:i<o.2.1.length):iv (-2147483648) 2147483647 (nth (.int .i64) o.2.1 i):=h.words _ (dN (t:=.int .i64) hi)
def la.sym{o:D aB}(h:la o){i:Nat}(hi:i<o.2.2.1.length):Nm (nth aS o.2.2.1 i).1/\iv 0 39 (nth aS o.2.2.1 i).2.1:=h.syms _ (dN (t:=aS) hi)
def la.tie{o:D aB}(h:la o){i:Nat}(hi:i<o.2.2.2.1.length):Ck (nth bD o.2.2.2.1 i):=h.Na _ (dN (t:=bD) hi)
def Kn(a b:aD):bE a++bE b=bE (a++b):=by simp[bE]
def tK(a:aD):(bE a).length=a.length:=by simp[bE]
def EW{o:D aB}(h:la o){i:Nat}(hi:i<o.1.length):(nth .str o.1 i).length<=8/\(pE o i).length<=1000:=⟨(h.xC hi).2.1,h.HV i⟩
def EX{o:D aB}(h:la o){i:Nat}(hi:i<o.2.1.length):(ab (nth (.int .i64) o.2.1 i)).length<=19/\(nV o i).length<=4000:=
 ⟨dJ (h.word hi) (by decide) (by decide),h.AU i⟩
def HW{o:D aB}(h:la o){i:Nat}(hi:i<o.2.2.1.length) :
  (nth aS o.2.2.1 i).1.length<=8/\(ab (nth aS o.2.2.1 i).2.1).length<=19/\(iO (nth aS o.2.2.1 i).2.2.1).length<=5/\(nW o i).length<=5000:=
 ⟨(h.sym hi).1.2.1,dJ (h.sym hi).2 (by decide) (by decide),sZ _,h.WU i⟩
def HX{o:D aB}(h:la o){i:Nat}(hi:i<o.2.2.2.1.length) :
  (nth bD o.2.2.2.1 i).2.2.2.1.length<=8/\(ab (nth bD o.2.2.2.1 i).1).length<=19/\(ab (nth bD o.2.2.2.1 i).2.2.1).length<=19/\(iO (nth bD o.2.2.2.1 i).2.2.2.2.1).length<=5/\(jC o i).length<=6000:=by
 have ht:=h.tie hi;refine⟨?_,dJ ht.a (by decide) (by decide),dJ ht.w (by decide) (by decide),sZ _,h.XM i⟩;by_cases hk:(nth bD o.2.2.2.1 i).2.1=1
 ·rw[(ht.base hk).1];decide
 ·exact(ht.nm hk).2.1
def oQ{p p' q:aD}{a b:Int}(h:p'=p++q):(((bE p++bE q,a,b,()):D kz))=((bE p',a,b,()):D kz):=by rw[h,Kn]
def AV{p p':aD}{a b:Int}(h:p=p'):((bE p,a,b,()):D kz)=((bE p',a,b,()):D kz):=by rw[h]
def Nb{o:D aB}{i:Nat}(h:i<o.2.2.2.1.length)(hk:(nth bD o.2.2.2.1 i).2.1=1) :
  jC o (i+1)=jC o i++([98,97,115,101,32]++ab (nth bD o.2.2.2.1 i).1++[32]++ab (nth bD o.2.2.2.1 i).2.2.1++[10]):=by
 rw[xB h];unfold tJ;rw[if_pos hk]
def Nc{o:D aB}{i:Nat}(h:i<o.2.2.2.1.length)(hk:¬(nth bD o.2.2.2.1 i).2.1=1)(hk2:(nth bD o.2.2.2.1 i).2.1=2) :
  jC o (i+1)=jC o i++(iO (nth bD o.2.2.2.1 i).2.2.2.2.1++[119,104,111,108,101,32]++ab (nth bD o.2.2.2.1 i).1++[32]++ab (nth bD o.2.2.2.1 i).2.2.1++[32]++(nth bD o.2.2.2.1 i).2.2.2.1++[10]):=by
 rw[xB h];unfold tJ;rw[if_neg hk,if_pos hk2]
def Nd{o:D aB}{i:Nat}(h:i<o.2.2.2.1.length)(hk:¬(nth bD o.2.2.2.1 i).2.1=1)(hk2:¬(nth bD o.2.2.2.1 i).2.1=2) :
  jC o (i+1)=jC o i++(iO (nth bD o.2.2.2.1 i).2.2.2.2.1++[110,101,97,114,32]++ab (nth bD o.2.2.2.1 i).1++[32]++ab (nth bD o.2.2.2.1 i).2.2.1++[32]++(nth bD o.2.2.2.1 i).2.2.2.1++[10]):=by
 rw[xB h];unfold tJ;rw[if_neg hk,if_neg hk2]
def EY{o:D aB}(h:dB o≠0):ku o=([],aI (dB o)):=by unfold ku;rw[if_pos h]
def Co{o:D aB}(h:dB o=0){i:Nat}(hi:i=o.2.2.2.1.length)(hl:(jC o i).length > 1200):ku o=([],.no 2):=by
 unfold ku;rw[if_neg (by rw[h];decide),if_pos (by unfold iP;rw[<-hi];exact hl)]
def vw{o:D aB}(h:dB o=0){i:Nat}(hi:i=o.2.2.2.1.length)(hl:(jC o i).length<=1200):ku o=(jC o i,.nil):=by
 unfold ku;rw[if_neg (by rw[h];decide),if_neg (by unfold iP;rw[<-hi];omega)];unfold iP;rw[<-hi]
@[reducible] def eA:aD:=[119,101,97,107,32]
@[reducible] def kv:aD:=[110,101,101,100]
@[reducible] def jV:aD:=[119,111,114,100]
@[reducible] def js:aD:=[115,121,109,98,111,108]
@[reducible] def mM:aD:=[98,97,115,101]
@[reducible] def lF:aD:=[119,104,111,108,101]
@[reducible] def lj:aD:=[110,101,97,114]
def qc(o:D aB)(s:aD):D aB:=(o.1++[s],o.2)
def qd(o:D aB)(n:Int):D aB:=(o.1,o.2.1++[n],o.2.2)
def ur(o:D aB)(y:D aS):D aB:=(o.1,o.2.1,o.2.2.1++[y],o.2.2.2)
def pF(o:D aB)(t:D bD):D aB:=(o.1,o.2.1,o.2.2.1,o.2.2.2.1++[t],())
def AW(x y:aD)(k:Int->Int->D aB):Option (D aB):=
 match cT x,cT y with
 |some m,some n=>some (k m n)
 |_,_=>none
def nh(o:D aB)(b:Bool):List aD->Option (D aB)
 |[a,x]=>if a=kv then some (qc o x)else if a=jV then(cT x).map (qd o)else none
 |[a,x,y]=>if a=js then(cT y).map fun n=>ur o (x,n,b,())else if a=mM then AW x y fun m n=>pF o (m,1,n,[],false,())else none
 |[a,x,y,z]=>if a=lF\/a=lj then AW x y fun m n=>pF o (m,if a=lj then 3 else 2,n,z,b,())else none
 |_=>none
def pG(o:D aB)(s:aD):Option (D aB):=nh o (av s eA) (parts 32 (ax s eA))
def run(f:D aB->aD->Option (D aB)):D aB->List aD->Option (D aB)
 |o,[]=>some o
 |o,s :: r=>match f o s with
  |some p=>run f p r
  |none=>none
def HY{f:D aB->aD->Option (D aB)}:∀{l:List aD} {o:D aB} {s:aD},run f o (l++[s])=(run f o l).bind fun p=>f p s
 |[],o,s=>by simp only[ey,run,fj];cases f o s <;> rfl
 |x :: r,o,s=>by
  simp only[ee,run];cases f o x with
  |none=>rfl
  |some p=>exact HY
def yD{f:D aB->aD->Option (D aB)}:∀{l m:List aD} {o p:D aB},run f o l=some p->run f o (l++m)=run f p m
 |[],m,o,p,h=>by simp only[run,df]at h;rw[h];rfl
 |x :: r,m,o,p,h=>by
  simp only[run]at h;simp only[ee,run];cases hx:f o x with
  |none=>rw[hx]at h;cases h
  |some q=>rw[hx]at h;exact yD h
def pH(s:aD):aD:=[110,101,101,100,32]++s
def pI(n:Int):aD:=[119,111,114,100,32]++ab n
def AX(y:D aS):aD:=iO y.2.2.1++([115,121,109,98,111,108,32]++(y.1++32 :: ab y.2.1))
def xD(t:D bD):aD:=
 if t.2.1=1 then[98,97,115,101,32]++(ab t.1++32 :: ab t.2.2.1)
 else if t.2.1=2 then iO t.2.2.2.2.1++([119,104,111,108,101,32]++(ab t.1++32 :: (ab t.2.2.1++32 :: t.2.2.2.1)))
 else iO t.2.2.2.2.1++([110,101,97,114,32]++(ab t.1++32 :: (ab t.2.2.1++32 :: t.2.2.2.1)))
def qP(o:D aB):List aD:=o.1.map pH++(o.2.1.map pI++(o.2.2.1.map AX++o.2.2.2.1.map xD))
def si{α:Type}{f g:α->aD}(h:∀x,f x=g x++[10]):∀l:List α,l.flatMap f=re 10 (l.map g)
 |[]=>rfl
 |x :: r=>by rw[bx,si h r,aj,EO,h];simp
def AY(c:UInt8)(l m:List aD):re c (l++m)=re c l++re c m:=by simp[re]
def Ko(o:D aB):iP o=re 10 (qP o):=by
 unfold iP jC nW nV pE qP;rw[cb,cb,cb,cb,AY,AY,AY,
  si (g:=pH) (fun s=>by simp[yC,pH]) o.1,si (g:=pI) (fun s=>by simp[vt,pI]) o.2.1,
  si (g:=AX) (fun s=>by simp[DB,AX]) o.2.2.1,
  si (g:=xD) (fun s=>by unfold tJ xD;split <;> (try split) <;> simp) o.2.2.2.1]
 simp
structure Reads (f:D aB->aD->Option (D aB)):Prop where
 xC:∀(o:D aB) (s:aD),Nm s->f o (pH s)=some (qc o s)
 word:∀(o:D aB) (n:Int),iv (-2147483648) 2147483647 n->f o (pI n)=some (qd o n)
 sym:∀(o:D aB) (y:D aS),Nm y.1->iv 0 39 y.2.1->f o (AX y)=some (ur o y)
 tie:∀(o:D aB) (t:D bD),Ck t->f o (xD t)=some (pF o t)
section
variable{f:D aB->aD->Option (D aB)}(h:Reads f)
include h
def EZ:∀(l:List aD) (o:D aB),(∀s∈l,Nm s)->run f o (l.map pH)=some (o.1++l,o.2)
 |[],o,_=>by simp[run]
 |s :: r,o,hl=>by
  rw[aj,run,h.xC o s (hl s (by simp))];show run f (qc o s) (r.map pH)=_;rw[EZ r _ fun x hx=>hl x (cd _ hx)];simp[qc]
def E0:∀(l:List Int) (o:D aB),(∀n∈l,iv (-2147483648) 2147483647 n)->run f o (l.map pI)=some (o.1,o.2.1++l,o.2.2)
 |[],o,_=>by simp[run]
 |s :: r,o,hl=>by
  rw[aj,run,h.word o s (hl s (by simp))];show run f (qd o s) (r.map pI)=_;rw[E0 r _ fun x hx=>hl x (cd _ hx)];simp[qd]
def HZ:∀(l:List (D aS)) (o:D aB),(∀y∈l,Nm y.1/\iv 0 39 y.2.1)->run f o (l.map AX)=some (o.1,o.2.1,o.2.2.1++l,o.2.2.2)
 |[],o,_=>by simp[run]
 |s :: r,o,hl=>by
  rw[aj,run,h.sym o s (hl s (by simp)).1 (hl s (by simp)).2];show run f (ur o s) (r.map AX)=_;rw[HZ r _ fun x hx=>hl x (cd _ hx)];simp[ur]
def H0:∀(l:List (D bD)) (o:D aB),(∀t∈l,Ck t)->run f o (l.map xD)=some (o.1,o.2.1,o.2.2.1,o.2.2.2.1++l,())
 |[],o,_=>by simp[run]
 |s :: r,o,hl=>by
  rw[aj,run,h.tie o s (hl s (by simp))];show run f (pF o s) (r.map xD)=_;rw[H0 r _ fun x hx=>hl x (cd _ hx)];simp[pF]
def P0{o:D aB}(ok:la o):run f (bY aB) (qP o)=some o:=by
 unfold qP;rw[yD (EZ h o.1 _ ok.GC),yD (E0 h o.2.1 _ ok.words),yD (HZ h o.2.2.1 _ ok.syms),H0 h o.2.2.2.1 _ ok.Na];rfl
end
def Cp{a:UInt8}{s:aD}(h:a≠119):av (a :: s) eA=false:=by
 unfold av eA;simp[cm];intro e;exact absurd e.symm h
def Vy{s:aD}(h:av s eA=false):ax s eA=s:=by unfold ax;rw[if_neg (by rw[h];decide)]
def Ly(s:aD):av (eA++s) eA=true:=by unfold av eA;simp[cm]
def Th(s:aD):ax (eA++s) eA=s:=by unfold ax;rw[if_pos (Ly s)];rfl
def Lz{a b:UInt8}{s:aD}(h:b≠101):av (a :: b :: s) eA=false:=by
 unfold av eA;simp[cm];intro _ e;exact absurd e.symm h
def nJ(o:D aB)(b:Bool)(s:aD)(h:av s eA=false):pG o (iO b++s)=nh o b (parts 32 s):=by
 unfold pG;cases b with
 |false=>show nh o (av s eA) (parts 32 (ax s eA))=_;rw[h,Vy h]
 |true=>show nh o (av (eA++s) eA) (parts 32 (ax (eA++s) eA))=_;rw[Ly,Th]
def nK{s:aD}(h:Nm s):(32:UInt8)∉s/\(10:UInt8)∉s:=⟨fun hc=>(h.2.2 _ hc).2 rfl,fun hc=>(h.2.2 _ hc).1 rfl⟩
def jN(n:Int):(32:UInt8)∉ab n:=ES (by decide)
def ni(n:Int):(10:UInt8)∉ab n:=ES (by decide)
def Nf{s:aD}(h:Nm s):parts 32 (pH s)=[kv,s]:=by
 show parts 32 (kv++32 :: s)=_;rw[ij (by decide),lP (nK h).1]
def Ng(n:Int):parts 32 (pI n)=[jV,ab n]:=by
 show parts 32 (jV++32 :: ab n)=_;rw[ij (by decide),lP (jN n)]
def P1{s:aD}{n:Int}(h:Nm s):parts 32 ([115,121,109,98,111,108,32]++(s++32 :: ab n))=[js,s,ab n]:=by
 show parts 32 (js++32 :: (s++32 :: ab n))=_;rw[ij (by decide),ij (nK h).1,lP (jN n)]
def Nh(m n:Int):parts 32 ([98,97,115,101,32]++(ab m++32 :: ab n))=[mM,ab m,ab n]:=by
 show parts 32 (mM++32 :: (ab m++32 :: ab n))=_;rw[ij (by decide),ij (jN m),lP (jN n)]
def Kp{s:aD}(m n:Int)(h:Nm s):parts 32 ([119,104,111,108,101,32]++(ab m++32 :: (ab n++32 :: s)))=[lF,ab m,ab n,s]:=by
 show parts 32 (lF++32 :: (ab m++32 :: (ab n++32 :: s)))=_;rw[ij (by decide),ij (jN m),ij (jN n),lP (nK h).1]
def Ni{s:aD}(m n:Int)(h:Nm s):parts 32 ([110,101,97,114,32]++(ab m++32 :: (ab n++32 :: s)))=[lj,ab m,ab n,s]:=by
 show parts 32 (lj++32 :: (ab m++32 :: (ab n++32 :: s)))=_;rw[ij (by decide),ij (jN m),ij (jN n),lP (nK h).1]
def rI{a b n:Int}(h:iv a b n)(ha : -9223372036854775808<=a)(hb:b<=9223372036854775807):cT (ab n)=some n:=PQ (b7 ha h.1) (b7 h.2 hb)
def WV:Reads pG where
 xC o s h:=by
  have:=nJ o false (pH s) (Cp (by decide));rw[show iO false++pH s=pH s from rfl,Nf h]at this;exact this
 word o n h:=by
  have:=nJ o false (pI n) (Lz (by decide));rw[show iO false++pI n=pI n from rfl,Ng]at this;rw[this];show(if jV=kv then some (qc o (ab n))else if jV=jV then(cT (ab n)).map (qd o)else none)=_;rw[if_neg (by decide),if_pos rfl,rI h (by decide) (by decide)];rfl
 sym o y h h':=by
  have:=nJ o y.2.2.1 ([115,121,109,98,111,108,32]++(y.1++32 :: ab y.2.1)) (Cp (by decide));rw[P1 h]at this;refine Eq.trans this ?_;dsimp only[nh];rw[if_pos rfl,rI h' (by decide) (by decide)];rfl
 tie o t h:=by
  obtain⟨at',k,ad,nm,b,_⟩:=t;have ha:=rI h.a (by decide) (by decide);have hw:=rI h.w (by decide) (by decide);simp only at ha hw;unfold xD;rcases h.k with e|e|e
  ·have hb:=h.base e
   simp only at e hb;obtain⟨rfl,rfl⟩:=hb;subst e;rw[if_pos rfl];have:=nJ o false ([98,97,115,101,32]++(ab at'++32 :: ab ad)) (Cp (by decide));rw[Nh]at this;refine this.trans ?_;dsimp only[nh];rw[if_neg (by decide),if_pos rfl];unfold AW;rw[ha,hw]
  ·have hn:=h.nm (by rw[show _=_ from e];decide)
   simp only at e hn;subst e;rw[if_neg (by simp),if_pos rfl];have:=nJ o b ([119,104,111,108,101,32]++(ab at'++32 :: (ab ad++32 :: nm))) (Lz (by decide));rw[Kp _ _ hn]at this;refine this.trans ?_;dsimp only[nh];rw[if_pos (.inl rfl),if_neg (by decide)];unfold AW;rw[ha,hw]
  ·have hn:=h.nm (by rw[show _=_ from e];decide)
   simp only at e hn;subst e;rw[if_neg (by simp),if_neg (by simp)];have:=nJ o b ([110,101,97,114,32]++(ab at'++32 :: (ab ad++32 :: nm))) (Cp (by decide));rw[Ni _ _ hn]at this;refine this.trans ?_;dsimp only[nh];rw[if_pos (.inr rfl),if_pos rfl];unfold AW;rw[ha,hw]
def Nj{o:D aB}(h:la o):∀l∈qP o,(10:UInt8)∉l:=by
 intro l hl;unfold qP at hl;simp only[au,bf]at hl;have hw:∀b,(10:UInt8)∉iO b:=by intro b;cases b <;> decide
 rcases hl with⟨s,hs,rfl⟩|⟨n,hn,rfl⟩|⟨y,hy,rfl⟩|⟨t,ht,rfl⟩
 ·have:=(nK (h.GC s hs)).2
  unfold pH;simp[this]
 ·have:=ni n
  unfold pI;simp[this]
 ·have h1:=(nK (h.syms y hy).1).2
  have h2:=ni y.2.1;have h3:=hw y.2.2.1;unfold AX;simp[h1,h2,h3]
 ·have h1:=ni t.1
  have h2:=ni t.2.2.1;have h3:=hw t.2.2.2.2.1;unfold xD;split
  ·simp[h1,h2]
  ·rename_i hk
   have h4:=(nK ((h.Na t ht).nm hk)).2;split <;> simp[h1,h2,h3,h4]
def Ti{o:D aB}(h:la o):qP o≠[]:=by
 have h1:=h.w1;unfold qP;intro e;simp only[List.append_eq_nil_iff,List.map_eq_nil_iff]at e;rw[e.2.1]at h1;simp at h1
def Nk(s:aD):Option (D aB):=run pG (bY aB) (parts 10 (ae s [10]))
def s7{o:D aB}(h:dB o=0):Nk (iP o)=some o:=by
 have ok:=ng h;unfold Nk;rw[Ko,M9 (Ti ok) (Nj ok),P0 WV ok]
def P2{o p:D aB}(h:dB o=0)(h':dB p=0)(e:iP o=iP p):o=p:=by
 have a:=s7 h;rw[e,s7 h']at a;exact(dy a).symm
open Classical in
def cW(s:aD):D aB×Int:=
 if s.length > 1200 then(bY aB,2)
 else if h:∃o:D aB,dB o=0/\iP o=s then(b9 h,0)else(bY aB,4)
def E1{s:aD}(h:s.length > 1200):cW s=(bY aB,2):=by unfold cW;rw[if_pos h]
def DC{s:aD}{o:D aB}(h:¬s.length > 1200)(hf:dB o=0)(ht:iP o=s):cW s=(o,0):=by
 have hx:∃o:D aB,dB o=0/\iP o=s:=⟨o,hf,ht⟩
 have hc:=cz hx;unfold cW;rw[if_neg h,dif_pos hx,P2 hc.1 hf (hc.2.trans ht.symm)]
def AZ{s:aD}(h:¬s.length > 1200)(hn:∀o:D aB,dB o=0->iP o≠s):cW s=(bY aB,4):=by
 unfold cW;rw[if_neg h,dif_neg fun⟨o,h1,h2⟩=>hn o h1 h2]
def Nl{s:aD}(h:¬s.length > 1200)(hr:Nk s=none):cW s=(bY aB,4):=
 AZ h fun o h1 h2=>by rw[<-h2,s7 h1]at hr;cases hr
def Cq{s:aD}{o:D aB}(h:¬s.length > 1200)(hr:Nk s=some o)(hb:dB o=0->iP o≠s):cW s=(bY aB,4):=
 AZ h fun p h1 h2=>by
  have:p=o:=by rw[<-h2,s7 h1]at hr;exact dy hr
  rw[this]at h1 h2;exact hb h1 h2
def gJ(o:D aB)(b:Bool)(s:aD):D aB×Bool:=
 let w:=parts 32 (ax s eA)
 if nth .str w 0=kv/\w.length=2 then(qc o (nth .str w 1),b)
 else if nth .str w 0=jV/\w.length=2 then(qd o (eD (nth .str w 1)).1,b || (cT (nth .str w 1)).isNone)
 else if nth .str w 0=js/\w.length=3 then(ur o (nth .str w 1,(eD (nth .str w 2)).1,av s eA,()),b || (cT (nth .str w 2)).isNone)
 else if nth .str w 0=mM/\w.length=3 then(pF o ((eD (nth .str w 1)).1,1,(eD (nth .str w 2)).1,[],false,()),(b || (cT (nth .str w 1)).isNone) || (cT (nth .str w 2)).isNone)
 else if(nth .str w 0=lF\/nth .str w 0=lj)/\w.length=4 then
  (pF o ((eD (nth .str w 1)).1,if nth .str w 0=lj then 3 else 2,(eD (nth .str w 2)).1,nth .str w 3,av s eA,()),(b || (cT (nth .str w 1)).isNone) || (cT (nth .str w 2)).isNone)
 else(o,true)
def nj{s:aD}{n:Int}(h:cT s=some n):(eD s).1=n:=by
 unfold cT at h;unfold eD;cases ha:b6 s with
 |ok v=>rw[ha]at h;simp only at h ⊢;split at h <;> simp_all
 |range=>rw[ha]at h;cases h
 |_=>rw[ha]at h;cases h
def Nn(o:D aB)(b:Bool)(s:aD):(∃p,pG o s=some p/\gJ o b s=(p,b))\/(pG o s=none/\(gJ o b s).2=true):=by
 unfold pG gJ;generalize hw:parts 32 (ax s eA)=w;generalize av s eA=k;have hne:=AS 32 (ax s eA);rw[hw]at hne
 match w,hne with
 |[],hne=>exact absurd rfl hne
 |[a],_=>exact .inr ⟨rfl,by simp⟩
 |[a,x],_=>
  dsimp only[nh];simp only[show nth .str [a,x] 0=a from rfl,show nth .str [a,x] 1=x from rfl];by_cases h1:a=kv
  ·rw[if_pos h1,if_pos (show(a=kv)/\[a,x].length=2 from⟨h1,rfl⟩)];exact .inl ⟨_,rfl,rfl⟩
  ·rw[if_neg h1,if_neg (show ¬((a=kv)/\[a,x].length=2)from fun e=>h1 e.1)]
   by_cases h2:a=jV
   ·rw[if_pos h2,if_pos (show(a=jV)/\[a,x].length=2 from⟨h2,rfl⟩)]
    cases hn:cT x with
    |none=>exact .inr ⟨rfl,by simp⟩
    |some n=>exact .inl ⟨_,rfl,by rw[nj hn];simp⟩
   ·rw[if_neg h2,if_neg (show ¬((a=jV)/\[a,x].length=2)from fun e=>h2 e.1),if_neg (show ¬((a=js)/\[a,x].length=3)from fun e=>absurd e.2 (by simp)),if_neg (show ¬((a=mM)/\[a,x].length=3)from fun e=>absurd e.2 (by simp)),if_neg (show ¬((a=lF\/a=lj)/\[a,x].length=4)from fun e=>absurd e.2 (by simp))];exact .inr ⟨rfl,rfl⟩
 |[a,x,y],_=>
  dsimp only[nh];simp only[show nth .str [a,x,y] 0=a from rfl,show nth .str [a,x,y] 1=x from rfl,show nth .str [a,x,y] 2=y from rfl];rw[if_neg (show ¬((a=kv)/\[a,x,y].length=2)from fun e=>absurd e.2 (by simp)),if_neg (show ¬((a=jV)/\[a,x,y].length=2)from fun e=>absurd e.2 (by simp))];by_cases h1:a=js
  ·rw[if_pos h1,if_pos (show(a=js)/\[a,x,y].length=3 from⟨h1,rfl⟩)]
   cases hn:cT y with
   |none=>exact .inr ⟨rfl,by simp⟩
   |some n=>exact .inl ⟨_,rfl,by rw[nj hn];simp⟩
  ·rw[if_neg h1,if_neg (show ¬((a=js)/\[a,x,y].length=3)from fun e=>h1 e.1)]
   by_cases h2:a=mM
   ·rw[if_pos h2,if_pos (show(a=mM)/\[a,x,y].length=3 from⟨h2,rfl⟩)]
    unfold AW;cases hm:cT x with
    |none=>exact .inr ⟨rfl,by simp⟩
    |some m=>
     cases hn:cT y with
     |none=>exact .inr ⟨rfl,by simp⟩
     |some n=>exact .inl ⟨_,rfl,by rw[nj hn,nj hm];simp⟩
   ·rw[if_neg h2,if_neg (show ¬((a=mM)/\[a,x,y].length=3)from fun e=>h2 e.1),if_neg (show ¬((a=lF\/a=lj)/\[a,x,y].length=4)from fun e=>absurd e.2 (by simp))];exact .inr ⟨rfl,rfl⟩
 |[a,x,y,z],_=>
  dsimp only[nh];simp only[show nth .str [a,x,y,z] 0=a from rfl,show nth .str [a,x,y,z] 1=x from rfl,show nth .str [a,x,y,z] 2=y from rfl,show nth .str [a,x,y,z] 3=z from rfl];rw[if_neg (show ¬((a=kv)/\[a,x,y,z].length=2)from fun e=>absurd e.2 (by simp)),if_neg (show ¬((a=jV)/\[a,x,y,z].length=2)from fun e=>absurd e.2 (by simp)),if_neg (show ¬((a=js)/\[a,x,y,z].length=3)from fun e=>absurd e.2 (by simp)),if_neg (show ¬((a=mM)/\[a,x,y,z].length=3)from fun e=>absurd e.2 (by simp))];by_cases h1:a=lF\/a=lj
  ·rw[if_pos h1,if_pos (show(a=lF\/a=lj)/\[a,x,y,z].length=4 from⟨h1,rfl⟩)]
   unfold AW;cases hm:cT x with
   |none=>exact .inr ⟨rfl,by simp⟩
   |some m=>
    cases hn:cT y with
    |none=>exact .inr ⟨rfl,by simp⟩
    |some n=>exact .inl ⟨_,rfl,by rw[nj hn,nj hm];simp⟩
  ·rw[if_neg h1,if_neg (show ¬((a=lF\/a=lj)/\[a,x,y,z].length=4)from fun e=>h1 e.1)];exact .inr ⟨rfl,rfl⟩
 |a :: x :: y :: z :: u :: r,_=>exact .inr ⟨rfl,by simp⟩
def P3(o:D aB)(s:aD):(gJ o true s).2=true:=by
 unfold gJ;simp only[Bool.true_or];split
 ·rfl
 ·split
  ·rfl
  ·split
   ·rfl
   ·split
    ·rfl
    ·split <;> rfl
def P4(o:D aB)(b:Bool)(s:aD) :
  (gJ o b s).1.1.length<=o.1.length+1/\(gJ o b s).1.2.1.length<=o.2.1.length+1/\(gJ o b s).1.2.2.1.length<=o.2.2.1.length+1/\(gJ o b s).1.2.2.2.1.length<=o.2.2.2.1.length+1:=by
 have e:∀{α:Type} (l:List α) (x:α),(l++[x]).length<=l.length+1:=fun l x=>by simp
 have e0:∀n:Nat,n<=n+1:=fun n=>Nat.le_succ n
 unfold gJ;simp only;split
 ·exact⟨e _ _,e0 _,e0 _,e0 _⟩
 ·split
  ·exact⟨e0 _,e _ _,e0 _,e0 _⟩
  ·split
   ·exact⟨e0 _,e0 _,e _ _,e0 _⟩
   ·split
    ·exact⟨e0 _,e0 _,e0 _,e _ _⟩
    ·split
     ·exact⟨e0 _,e0 _,e0 _,e _ _⟩
     ·exact⟨e0 _,e0 _,e0 _,e0 _⟩
structure lG (L:List aD) (i:Nat) (o:D aB) (b:Bool):Prop where
 le:i<=L.length
 st:(run pG (bY aB) (L.take i)=some o/\b=false)\/(run pG (bY aB) (L.take i)=none/\b=true)
 l1:o.1.length<=i
 l2:o.2.1.length<=i
 l3:o.2.2.1.length<=i
 l4:o.2.2.2.1.length<=i
def lG.zero(L:List aD):lG L 0 (bY aB) false:=⟨ar _,.inl ⟨rfl,rfl⟩,ak _,ak _,ak _,ak _⟩
def lG.next{L:List aD}{i:Nat}{o:D aB}{b:Bool}(h:lG L i o b)(hi:i<L.length):lG L (i+1) (gJ o b (nth .str L i)).1 (gJ o b (nth .str L i)).2:=by
 obtain⟨a1,a2,a3,a4⟩:=P4 o b (nth .str L i);refine⟨hi,?_,by have:=h.l1;omega,by have:=h.l2;omega,by have:=h.l3;omega,by have:=h.l4;omega⟩;rw[iM (t:=.str) hi,HY];rcases h.st with⟨hr,hb⟩|⟨hr,hb⟩
 ·rw[hr,fj]
  rcases Nn o b (nth .str L i)with⟨p,h1,h2⟩|⟨h1,h2⟩
  ·rw[h2];exact .inl ⟨h1,hb⟩
  ·exact .inr ⟨h1,h2⟩
 ·rw[hr,hb];exact .inr ⟨rfl,P3 o _⟩
abbrev Rd:=aD->aD×Int×Int
structure iR (rd:Rd):Prop where
 code:∀s,(rd s).2.2=0\/(rd s).2.2=5
 nT:∃K:List aD,K.length<=6/\∀s,(rd s).2.2=0->s∈K
def gF(ns l:List aD):List aD:=l.foldl (fun ns s=>if ns.any (· == s)=true then ns else ns++[s]) ns
def jw(rd:Rd)(s:aD):D aB:=(cW (rd s).1).1
def eO(rd:Rd)(s:aD):Int:=if(rd s).2.2=0 then(cW (rd s).1).2 else(rd s).2.2
def jk(rd:Rd):Nat->Nat->List aD->List (D aB)->List aD×List (D aB)×Int
 |0,_,ns,os=>(ns,os,0)
 |k+1,i,ns,os=>
  if i<ns.length then
   if eO rd (nth .str ns i)=0 then jk rd k (i+1) (gF ns (jw rd (nth .str ns i)).1) (os++[jw rd (nth .str ns i)])
   else([],[],eO rd (nth .str ns i))
  else(ns,os,0)
def bF(rd:Rd)(root:aD):List aD×List (D aB)×Int:=jk rd 7 0 [root] []
def Cr(s:aD):((cW s).2=0/\dB (cW s).1=0/\iP (cW s).1=s)\/cW s=(bY aB,2)\/cW s=(bY aB,4):=by
 by_cases h:s.length > 1200
 ·exact .inr (.inl (E1 h))
 ·by_cases h2:∃o:D aB,dB o=0/\iP o=s
  ·obtain⟨o,h3,h4⟩:=h2
   rw[DC h h3 h4];exact .inl ⟨rfl,h3,h4⟩
  ·exact .inr (.inr (AZ h fun o h3 h4=>h2 ⟨o,h3,h4⟩))
def zO(s:aD):0<=(cW s).2:=by
 rcases Cr s with⟨h,_⟩|h|h <;> rw[h] <;> decide
def vy{s:aD}(h:(cW s).2=0):dB (cW s).1=0:=by
 rcases Cr s with⟨_,h,_⟩|h'|h'
 ·exact h
 ·rw[h']at h;cases h
 ·rw[h']at h;cases h
def DD{rd:Rd}(h:iR rd)(s:aD):0<=eO rd s:=by
 unfold eO;split
 ·exact zO _
 ·rcases h.code s with e|e <;> rw[e] <;> decide
def kg{rd:Rd}(h:iR rd){s:aD}(e:eO rd s=0):(rd s).2.2=0/\(cW (rd s).1).2=0:=by
 unfold eO at e;rcases h.code s with c|c
 ·rw[if_pos c]at e;exact⟨c,e⟩
 ·rw[if_neg (by rw[c];decide),c]at e;cases e
def xE{rd:Rd}{s:aD}(e:¬(rd s).2.2=0):eO rd s=(rd s).2.2:=by unfold eO;rw[if_neg e]
def tL{rd:Rd}{s:aD}(e:(rd s).2.2=0):eO rd s=(cW (rd s).1).2:=by unfold eO;rw[if_pos e]
def H2(ns:List aD):gF ns []=ns:=rfl
def xF(ns l:List aD)(s:aD):gF ns (s :: l)=gF (if ns.any (· == s)=true then ns else ns++[s]) l:=rfl
def P5(ns l:List aD)(s:aD):gF ns (l++[s])=if(gF ns l).any (· == s)=true then gF ns l else gF ns l++[s]:=by
 unfold gF;rw[List.foldl_append];rfl
def LA{ns:List aD}{s:aD}:ns.any (· == s)=true↔s∈ns:=by
 rw[cw];constructor
 ·rintro⟨x,hx,e⟩;rw[<-(by simpa using e:x=s)];exact hx
 ·intro h;exact⟨s,h,by simp⟩
def oR:∀(l ns:List aD),∃r,gF ns l=ns++r/\r.length<=l.length/\∀s∈r,s∈l
 |[],ns=>⟨[],by simp[H2],by simp,by simp⟩
 |x :: l,ns=>by
  rw[xF];split
  ·obtain⟨r,h1,h2,h3⟩:=oR l ns
   exact⟨r,h1,by simp;omega,fun s hs=>by simp[h3 s hs]⟩
  ·obtain⟨r,h1,h2,h3⟩:=oR l (ns++[x])
   refine⟨x :: r,by rw[h1];simp,by simp;omega,fun s hs =>?_⟩;rcases ag.1 hs with rfl|hs
   ·simp
   ·simp[h3 s hs]
def vz:∀(l ns:List aD),ns.Nodup->(gF ns l).Nodup
 |[],ns,h=>h
 |x :: l,ns,h=>by
  rw[xF];split
  ·exact vz l ns h
  ·rename_i hx
   refine vz l _ ?_;rw[fb];refine⟨h,by simp,fun a ha b hb e=>hx (LA.2 ?_)⟩;simp at hb;subst hb;exact e▸ha
def H3:∀(l ns:List aD),∀s∈l,s∈gF ns l
 |[],_,s,h=>by simp at h
 |x :: l,ns,s,h=>by
  rw[xF];rcases ag.1 h with rfl|h
  ·split
   ·rename_i hx
    obtain⟨r,h1,_⟩:=oR l ns;rw[h1];exact eg _ (LA.1 hx)
   ·obtain⟨r,h1,_⟩:=oR l (ns++[s])
    rw[h1];simp
  ·exact H3 l _ s h
def E2{ns l:List aD}{i:Nat}(h:i<l.length):gF ns (l.take (i+1))=if(gF ns (l.take i)).any (· == nth .str l i)=true then gF ns (l.take i)else gF ns (l.take i)++[nth .str l i]:=by
 rw[iM (t:=.str) h,P5]
def s9{t:Ty}{a b:List (D t)}{i:Nat}(h:i<a.length):nth t (a++b) i=nth t a i:=by rw[pz,if_pos h]
structure ld (rd:Rd) (root:aD) (i:Nat) (ns:List aD) (os:List (D aB)):Prop where
 eq:jk rd (7-i) i ns os=bF rd root
 le:i<=6
 lo:i<=ns.length
 pos:0<ns.length
 len:os.length=i
 hi:ns.length<=1+4*i
 head:nth .str ns 0=root
 nd:ns.Nodup
 xG:∀j,j<i->eO rd (nth .str ns j)=0/\nth aB os j=jw rd (nth .str ns j)
 want:∀j,j<ns.length->j≠0->∃k,k<i/\k<j/\nth .str ns j∈(nth aB os k).1
 xC:∀j,j<i->∀s∈(nth aB os j).1,s∈ns
def ld.zero(rd:Rd)(root:aD):ld rd root 0 [root] []:=
 ⟨rfl,by omega,by simp,by simp,rfl,by simp,rfl,by simp,fun j h=>by omega,fun j h h'=>by simp at h;omega,fun j h=>by omega⟩
def ld.room{rd:Rd}{root:aD}{i:Nat}{ns:List aD}{os:List (D aB)}(ok:iR rd)(h:ld rd root i ns os)(hi:i<ns.length)(hf:eO rd (nth .str ns i)=0):i+1<=6:=by
 obtain⟨K,hK,hm⟩:=ok.nT;have hsub:∀y∈ns.take (i+1),y∈K:=by
  intro y hy;obtain⟨j,hj,rfl⟩:=gV (t:=.str) hy;rw[bh]at hj;rw[AP (t:=.str) (by omega)];refine hm _ (kg ok ?_).1;rcases bg j i with hl|hl
  ·exact(h.xG j hl).1
  ·rw[show j=i by omega];exact hf
 have:=EL (h.nd.sublist (List.take_sublist (i+1) ns)) hsub;rw[bh]at this;omega
def ld.fuel{rd:Rd}{root:aD}{i:Nat}{ns:List aD}{os:List (D aB)}(h:ld rd root i ns os):jk rd (6-i+1) i ns os=bF rd root:=by
 rw[<-h.eq];congr 1;have:=h.le;omega
def ld.bad{rd:Rd}{root:aD}{i:Nat}{ns:List aD}{os:List (D aB)}(h:ld rd root i ns os)(hi:i<ns.length)(hf:¬eO rd (nth .str ns i)=0) :
  bF rd root=([],[],eO rd (nth .str ns i)):=by
 rw[<-h.fuel,jk,if_pos hi,if_neg hf]
def ld.done{rd:Rd}{root:aD}{i:Nat}{ns:List aD}{os:List (D aB)}(h:ld rd root i ns os)(hi:¬i<ns.length):bF rd root=(ns,os,0):=by
 rw[<-h.fuel,jk,if_neg hi]
def A0{rd:Rd}(ok:iR rd){s:aD}(hf:eO rd s=0):la (jw rd s):=ng (vy (kg ok hf).2)
def ld.next{rd:Rd}{root:aD}{i:Nat}{ns:List aD}{os:List (D aB)}(ok:iR rd)(h:ld rd root i ns os)(hi:i<ns.length)(hf:eO rd (nth .str ns i)=0) :
  ld rd root (i+1) (gF ns (jw rd (nth .str ns i)).1) (os++[jw rd (nth .str ns i)]):=by
 have hr:=h.room ok hi hf;have ho:=A0 ok hf;obtain⟨r,h1,h2,h3⟩:=oR (jw rd (nth .str ns i)).1 ns;have hn4:=ho.n4;have hlen:=h.len;have hhi:=h.hi;have hpos:=h.pos;have hos:nth aB (os++[jw rd (nth .str ns i)]) i=jw rd (nth .str ns i):=by rw[pz,if_neg (by omega),h.len,Nat.sub_self];rfl
 have hns:∀j,j<ns.length->nth .str (gF ns (jw rd (nth .str ns i)).1) j=nth .str ns j:=fun j hj=>by rw[h1,s9 (t:=.str) hj]
 have hoj:∀j,j<i->nth aB (os++[jw rd (nth .str ns i)]) j=nth aB os j:=fun j hj=>s9 (t:=aB) (by omega)
 refine⟨?_,hr,by rw[h1,aw];omega,by rw[h1,aw];omega,by rw[aw,h.len];rfl,by rw[h1,aw];omega,
  by rw[hns 0 hpos];exact h.head,vz _ _ h.nd,fun j hj =>?_,fun j hj h0 =>?_,fun j hj s hs =>?_⟩
 ·rw[<-h.fuel,jk,if_pos hi,if_pos hf];congr 1;omega
 ·rcases bg j i with hl|hl
  ·rw[hns j (by omega),hoj j hl];exact h.xG j hl
  ·rw[show j=i by omega,hns i hi,hos];exact⟨hf,rfl⟩
 ·rcases bg j ns.length with hl|hl
  ·obtain⟨k,k1,k2,k3⟩:=h.want j hl h0
   exact⟨k,by omega,k2,by rw[hns j hl,hoj k k1];exact k3⟩
  ·refine⟨i,by omega,by omega,?_⟩
   rw[hos,h1,pz,if_neg (by omega)];refine h3 _ (dN (t:=.str) ?_);rw[h1,aw]at hj;omega
 ·rcases bg j i with hl|hl
  ·rw[hoj j hl]at hs
   rw[h1];exact eg _ (h.xC j hl s hs)
  ·rw[show j=i by omega,hos]at hs
   exact H3 _ _ s hs
structure Scope (rd:Rd) (root:aD) (ns:List aD) (os:List (D aB)):Prop where
 le:ns.length<=6
 pos:0<ns.length
 len:os.length=ns.length
 head:nth .str ns 0=root
 nd:ns.Nodup
 xG:∀j,j<ns.length->eO rd (nth .str ns j)=0/\nth aB os j=jw rd (nth .str ns j)
 want:∀j,j<ns.length->j≠0->∃k,k<j/\nth .str ns j∈(nth aB os k).1
 xC:∀j,j<ns.length->∀s∈(nth aB os j).1,s∈ns
def Cs{rd:Rd}{root:aD}(ok:iR rd):∀(m i:Nat) (ns:List aD) (os:List (D aB)),m=7-i->ld rd root i ns os->
  (∃f,0<f/\bF rd root=([],[],f))\/(∃ns os,bF rd root=(ns,os,0)/\Scope rd root ns os)
 |0,i,ns,os,hm,h=>by have:=h.le;omega
 |m+1,i,ns,os,hm,h=>by
  by_cases hi:i<ns.length
  ·by_cases hf:eO rd (nth .str ns i)=0
   ·exact Cs ok m (i+1) _ _ (by omega) (h.next ok hi hf)
   ·have:=DD ok (nth .str ns i)
    exact .inl ⟨_,by omega,h.bad hi hf⟩
  ·have h1:=h.lo
   have h2:=h.le;have e:i=ns.length:=by omega
   subst e;exact .inr ⟨ns,os,h.done hi,h2,h.pos,h.len,h.head,h.nd,h.xG,fun j hj h0=>let⟨k,_,k2,k3⟩:=h.want j hj h0;⟨k,k2,k3⟩,h.xC⟩
def zP{rd:Rd}(ok:iR rd)(root:aD):(∃f,0<f/\bF rd root=([],[],f))\/(∃ns os,bF rd root=(ns,os,0)/\Scope rd root ns os):=
 Cs ok 7 0 _ _ rfl (ld.zero rd root)
def A4{rd:Rd}(ok:iR rd){root:aD}(h:(bF rd root).2.2=0):Scope rd root (bF rd root).1 (bF rd root).2.1:=by
 rcases zP ok root with⟨f,hf,e⟩|⟨ns,os,e,h'⟩
 ·rw[e]at h;simp only at h;omega
 ·rw[e];exact h'
def Ct(rd:Rd):∀(k i:Nat) (ns:List aD) (os:List (D aB)),(jk rd k i ns os).2.2=0->∀s∈ns,s∈(jk rd k i ns os).1
 |0,_,ns,os,_=>fun s hs=>hs
 |k+1,i,ns,os,h=>by
  unfold jk at h ⊢;split
  ·rename_i hi
   rw[if_pos hi]at h;split
   ·rename_i hf
    rw[if_pos hf]at h;obtain⟨r,h1,_⟩:=oR (jw rd (nth .str ns i)).1 ns;intro s hs;exact Ct rd k _ _ _ h s (by rw[h1];exact eg _ hs)
   ·rename_i hf
    rw[if_neg hf]at h;exact absurd h hf
  ·exact fun s hs=>hs
def xH{rd rd':Rd}:∀(k i:Nat) (ns:List aD) (os:List (D aB)),(jk rd k i ns os).2.2=0->(∀s∈(jk rd k i ns os).1,rd' s=rd s)->jk rd' k i ns os=jk rd k i ns os
 |0,_,ns,os,_,_=>rfl
 |k+1,i,ns,os,h,hs=>by
  by_cases hi:i<ns.length
  ·have hm:=hs _ (Ct rd (k+1) i ns os h _ (dN (t:=.str) hi))
   have e1:eO rd' (nth .str ns i)=eO rd (nth .str ns i):=by unfold eO;rw[hm]
   have e2:jw rd' (nth .str ns i)=jw rd (nth .str ns i):=by unfold jw;rw[hm]
   unfold jk at h hs ⊢;rw[if_pos hi]at h hs ⊢;rw[if_pos hi,e1,e2];by_cases hf:eO rd (nth .str ns i)=0
   ·rw[if_pos hf]at h hs ⊢
    rw[if_pos hf];exact xH k _ _ _ h hs
   ·rw[if_neg hf,if_neg hf]
  ·unfold jk;rw[if_neg hi,if_neg hi]
def Kq{rd rd':Rd}{root:aD}(h:(bF rd root).2.2=0)(hs:∀s∈(bF rd root).1,rd' s=rd s):bF rd' root=bF rd root:=xH _ _ _ _ h hs
def jD{x:cG}(h:x.2.1.1.length<=6):iR (aL x):=by
 refine⟨fun s =>?_,x.2.1.1.map pB,by rw[ec];exact h,fun s hs =>?_⟩
 ·unfold aL;split
  ·exact .inl rfl
  ·exact .inr rfl
 ·by_cases c:cZ cK x.2.1.1 s=true
  ·obtain⟨y,hy,e⟩:=l7.1 c
   rw[<-e];exact bw hy
  ·rw[lN (by simpa using c)]at hs;cases hs
def uu:∀{s:List Int} {l:List (D aZ)} {out o:List Int},gW l s out=some o->∃ext,o=out++ext/\ext.length=s.length:=by
 intro s;induction s with
 |nil=>intro l out o h;simp only[gW,df]at h;exact⟨[],by simp[h],rfl⟩
 |cons n r ih=>
  intro l out o h;simp only[gW]at h;split at h
  ·cases h
  ·obtain⟨ext,h1,h2⟩:=ih h
   exact⟨_ :: ext,by rw[h1,cu];rfl,by simp[h2]⟩
def H4{l:List (D aZ)}{s o:List Int}{k:Nat}(hk:k<s.length)(h:gW l (s.drop k) (o.take k)=some o)(hl:o.length=s.length) :
  (nth (.int .i64) o k:Int)=gA l (cM (nth (.int .i64) s k)) 40 0/\gA l (cM (nth (.int .i64) s k)) 40 0+cM (nth (.int .i64) s k)<=256/\
  gW (l++[(gA l (cM (nth (.int .i64) s k)) 40 0,cM (nth (.int .i64) s k),())]) (s.drop (k+1)) (o.take (k+1))=some o:=by
 rw[sd hk]at h;split at h
 ·cases h
 ·rename_i hle
  obtain⟨ext,h1,h2⟩:=uu h;have hlen:(o.take k).length=k:=by rw[bh];omega
  have hget:o[k]?=some (gA l (cM (nth (.int .i64) s k)) 40 0):=by
   rw[h1,cu,List.getElem?_append_right (by omega),hlen,Nat.sub_self];rfl
  refine⟨iF (t:=.int .i64) hget,by omega,?_⟩;have:o.take (k+1)=o.take k++[gA l (cM (nth (.int .i64) s k)) 40 0]:=by
   rw[dx,hget];rfl
  rw[this];exact h
def No{s:List Int}{l:List (D aZ)}(h:(cN (s,l)).2.isNil=true) :
  s.length<=6/\l.length<=20/\(∀j,j<s.length->1<=(nth (.int .i64) s j:Int)/\(nth (.int .i64) s j:Int)<=40)/\(∀y∈l,nR y)/\gW l s []=some (cN (s,l)).1/\(cN (s,l)).1.length=s.length:=by
 by_cases h1:6<s.length\/20<l.length
 ·rw[zF h1]at h;cases h
 ·by_cases h2:AN s=true\/AO l=true
  ·unfold cN at h;rw[if_neg h1,if_pos h2]at h;cases h
  ·have hs:∀j,j<s.length->1<=(nth (.int .i64) s j:Int)/\(nth (.int .i64) s j:Int)<=40:=by
    intro j hj;apply aq;intro hn;rw[zG h1 hj hn]at h;cases h
   have ht:∀j,j<l.length->nR (nth aZ l j):=by
    intro j hj;apply aq;intro hn;rw[xc h1 hj hn]at h;cases h
   rw[xe h1 hs ht]at h ⊢;refine⟨by omega,by omega,hs,fun y hy =>?_,?_⟩
   ·obtain⟨i,hi,e⟩:=gV (t:=aZ) hy;rw[<-e];exact ht i hi
   ·split at h
    ·rename_i o ho
     obtain⟨ext,k1,k2⟩:=uu ho;simp only[ho];exact⟨aa,by rw[k1];simpa using k2⟩
    ·cases h
end Go.Mrl
namespace Go.Mrl
open Go.Vg
def Kr{n:Int}:n<=cM n/\cM n<n+16:=by unfold cM;omega
end Go.Mrl

namespace Go.Mrl
open Go.Vg
def ji(s:List Int):Nat->Int
 |0=>0
 |k+1=>ji s k+cM (nth (.int .i64) s k)
def vA(l:List (Int×Int×Unit))(S:Int):Prop:=0<=S/\(∃m:Nat,S=16*(m:Int))/\(∀y∈l,y.1+y.2.1<=S)/\∀p:Int,0<=p->p<S->∃y∈l,y.1<=p/\p<y.1+y.2.1
def vA.nil:vA [] 0:=⟨az _,⟨0,rfl⟩,fun y hy=>by simp at hy,fun p h1 h2=>by omega⟩
def vA.snoc{l:List (Int×Int×Unit)}{S m:Int}(h:vA l S)(hm:0<m)(h16:∃k:Nat,m=16*(k:Int)):vA (l++[(S,m,())]) (S+m):=by
 obtain⟨h1,⟨a,h2⟩,h3,h4⟩:=h;obtain⟨k,h5⟩:=h16;refine⟨by omega,⟨a+k,by omega⟩,fun y hy =>?_,fun p h6 h7 =>?_⟩
 ·rcases au.1 hy with hy|hy
  ·have:=h3 y hy;omega
  ·simp only[db]at hy;subst hy;simp only;omega
 ·by_cases c:p<S
  ·obtain⟨y,hy,h8⟩:=h4 p h6 c
   exact⟨y,by simp[hy],h8⟩
  ·exact⟨(S,m,()),by simp,by simp only;omega⟩
def vA.base{l:List (Int×Int×Unit)}{S many:Int}(h:vA l S)(hm:0<many):∀(n:Nat) (k:Nat),16*(k:Int)<=S->S-16*(k:Int)<16*(n:Int)->gA l many n (16*(k:Int))=S:=by
 obtain⟨h1,⟨a,h2⟩,h3,h4⟩:=h;intro n;induction n with
 |zero=>intro k hk hn;omega
 |succ n ih=>
  intro k hk hn;by_cases c:16*(k:Int)=S
  ·rw[c]
   apply qv;refine Cg fun j hj =>?_
   have:=h3 _ (dN (t:=aZ) hj);rw[Kd];simp only;omega
  ·obtain⟨y,hy,h8,h9⟩:=h4 (16*(k:Int)) (by omega) (by omega)
   have hf:jg (16*(k:Int),many,()) l=false:=by
    obtain⟨j,hj,e⟩:=gV (t:=aZ) hy;refine zE hj ?_;rw[e,xb];simp only;omega
   rw[EF hf,show 16*(k:Int)+16=16*((k+1:Nat):Int) by omega];exact ih (k+1) (by omega) (by omega)
def Vz{n:Int}(h:1<=n):∃k:Nat,cM n=16*(k:Int):=⟨((n+15) / 16).toNat,by unfold cM;omega⟩
def Np{s:List Int}(hs:∀j,j<s.length->1<=(nth (.int .i64) s j:Int)/\(nth (.int .i64) s j:Int)<=40):∀d k,k+d<=s.length->ji s k<=ji s (k+d):=by
 intro d;induction d with
 |zero=>intro k _;exact az _
 |succ d ih=>
  intro k hk;have h1:=ih k (by omega);have h2:=hs (k+d) (by omega);have h3:=lz h2.1 h2.2;have e:ji s (k+(d+1))=ji s (k+d)+cM (nth (.int .i64) s (k+d)):=rfl;rw[e];omega
def Tj{s:List Int}(hs:∀j,j<s.length->1<=(nth (.int .i64) s j:Int)/\(nth (.int .i64) s j:Int)<=40):∀(d k:Nat) {l:List (Int×Int×Unit)} {o:List Int},k+d=s.length->vA l (ji s k)->ji s k<=256->
  o.length=s.length->gW l (s.drop k) (o.take k)=some o->ji s s.length<=256/\∀i,k<=i->i<s.length->(nth (.int .i64) o i:Int)=ji s i:=by
 intro d;induction d with
 |zero=>
  intro k l o hk hc hle hl h;have e:k=s.length:=by omega
  subst e;exact⟨hle,fun i h1 h2=>by omega⟩
 |succ d ih=>
  intro k l o hk hc hle hl h;have h2:=hs k (by omega);have h3:=lz h2.1 h2.2;have hb:=hc.base (many:=cM (nth (.int .i64) s k)) (by omega) 40 0 (by have:=hc.1;omega) (by omega);simp only[Int.natCast_zero,Int.mul_zero]at hb;obtain⟨n1,n2,n3⟩:=H4 (k:=k) (by omega) h hl;rw[hb]at n1 n2 n3;have e:ji s (k+1)=ji s k+cM (nth (.int .i64) s k):=rfl;obtain⟨r1,r2⟩:=ih (k+1) (by omega) (l:=l++[(ji s k,cM (nth (.int .i64) s k),())]) (by rw[e];exact hc.snoc (by omega) (Vz h2.1)) (by omega) hl n3;refine⟨r1,fun i h4 h5 =>?_⟩;rcases bg k i with c|c
  ·exact r2 i (by omega) h5
  ·rw[show i=k by omega];exact n1
def P6{s:List Int}(h:(cN (s,[])).2.isNil=true):(cN (s,[])).1.length=s.length/\(∀j,j<s.length->1<=(nth (.int .i64) s j:Int)/\(nth (.int .i64) s j:Int)<=40)/\
  ji s s.length<=256/\∀i,i<s.length->(nth (.int .i64) (cN (s,[])).1 i:Int)=ji s i:=by
 obtain⟨_,_,h3,_,h5,h6⟩:=No h;obtain⟨r1,r2⟩:=Tj h3 s.length 0 (l:=[]) (o:=(cN (s,[])).1) (by omega) vA.nil (by simp[ji]) h6 (by rw[ef,fk];exact h5);exact⟨h6,h3,r1,fun i hi=>r2 i (ar _) hi⟩
def bZ(l:List (D aB)):List Int:=l.map fun o=>(o.2.1.length:Int)
def dC(l:List (D aB)):Ws:=l.map fun o=>o.2.1
def pJ(l:List (D aB)):(bZ l).length=l.length:=by simp[bZ]
def nL(l:List (D aB)):(dC l).length=l.length:=by simp[dC]
def rJ{t u:Ty}{f:D u->D t}{l:List (D u)}{i:Nat}(h:i<l.length):nth t (l.map f) i=f (nth u l i):=by
 unfold nth;rw[List.getD_eq_getElem?_getD,List.getD_eq_getElem?_getD,List.getElem?_map,List.getElem?_eq_getElem h];rfl
def Cu{l:List (D aB)}{i:Nat}(h:i<l.length):(nth (.int .i64) (bZ l) i:Int)=((nth aB l i).2.1.length:Int):=rJ (u:=aB) (t:=.int .i64) h
def vB{l:List (D aB)}{i:Nat}(h:i<l.length):nth jr (dC l) i=(nth aB l i).2.1:=rJ (u:=aB) (t:=jr) h
def zQ{l:List (D aB)}{i:Nat}(h:i<l.length):bZ (l.take (i+1))=bZ (l.take i)++[((nth aB l i).2.1.length:Int)]:=by
 unfold bZ;rw[lM (t:=aB) h];simp
def zR{l:List (D aB)}{i:Nat}(h:i<l.length):dC (l.take (i+1))=dC (l.take i)++[(nth aB l i).2.1]:=by
 unfold dC;rw[lM (t:=aB) h];simp
def A5(l:List (D aB))(b:List Int)(i:Nat)(ts:List (D bD)):List Pt:=ts.map fun t=>((i:Int),t.1,(gX l b i t).1,())
def rf(l:List (D aB))(b:List Int):List (D aB)->Nat->List Pt
 |[],_=>[]
 |o :: r,i=>A5 l b i o.2.2.2.1++rf l b r (i+1)
def LB{l:List (D aB)}{b:List Int}{i:Nat}:∀{ts:List (D bD)} {out:List Pt},(oh l b i ts out).2.isNil=true->oh l b i ts out=(out++A5 l b i ts,.nil)/\∀t∈ts,(gX l b i t).2.isNil=true
 |[],out,_=>⟨by simp[oh,A5],by simp⟩
 |t :: r,out,h=>by
  rw[oh]at h ⊢;by_cases c:(gX l b i t).2.isNil=true
  ·rw[if_pos c]at h ⊢
   obtain⟨h1,h2⟩:=LB h;refine⟨by rw[h1];simp[A5],fun u hu =>?_⟩;rcases ag.1 hu with rfl|hu
   ·exact c
   ·exact h2 u hu
  ·rw[if_neg c]at h;exact absurd h c
def LC{l:List (D aB)}{b:List Int}:∀{os:List (D aB)} {i:Nat} {out:List Pt},(nS l b os i out).2.isNil=true->nS l b os i out=(out++rf l b os i,.nil)/\
  ∀k,k<os.length->∀t∈(nth aB os k).2.2.2.1,(gX l b ((i+k:Nat):Int) t).2.isNil=true
 |[],i,out,_=>⟨by simp[nS,rf],fun k hk=>by simp at hk⟩
 |o :: r,i,out,h=>by
  rw[nS]at h ⊢;unfold oD at h ⊢;by_cases c:(oh l b i o.2.2.2.1 out).2.isNil=true
  ·rw[if_pos c]at h ⊢
   obtain⟨h1,h2⟩:=LB c;obtain⟨h3,h4⟩:=LC h;refine⟨by rw[h3,h1];simp[rf],fun k hk =>?_⟩;rcases k with _|k
   ·exact h2
   ·have:=h4 k (by simpa using hk)
    rw[show i+1+k=i+(k+1) by omega]at this;exact this
  ·rw[if_neg c]at h;exact absurd h c
def Tk{l:List (D aB)}{b:List Int}(h:(iJ (l,b)).2.isNil=true):b.length=l.length/\pR b/\(iJ (l,b)).1=rf l b l 0/\∀k,k<l.length->∀t∈(nth aB l k).2.2.2.1,(gX l b (k:Int) t).2.isNil=true:=by
 have h':=h;unfold iJ at h ⊢;split at h
 ·cases h
 ·rename_i hl
  split at h
  ·rename_i hb
   obtain⟨h1,h2⟩:=LC h;refine⟨aq hl,hb,?_,fun k hk t ht=>by have:=h2 k hk t ht;rwa [dh]at this⟩;rw[if_neg hl,if_pos hb,h1];rfl
  ·cases h
def A6{l:List (D aB)}{b:List Int}:∀{os:List (D aB)} {i:Nat} {p:Pt},p∈rf l b os i->∃k t,k<os.length/\t∈(nth aB os k).2.2.2.1/\p=(((i+k:Nat):Int),t.1,(gX l b ((i+k:Nat):Int) t).1,())
 |[],i,p,h=>by simp[rf]at h
 |o :: r,i,p,h=>by
  rcases au.1 h with h|h
  ·obtain⟨t,ht,rfl⟩:=bf.1 h
   exact⟨0,t,by simp,ht,rfl⟩
  ·obtain⟨k,t,hk,ht,rfl⟩:=A6 h
   exact⟨k+1,t,by simp;omega,ht,by rw[show i+1+k=i+(k+1) by omega]⟩
def Cv(x:List Int×List (D aZ)):Told (cN x).2:=by
 unfold cN;split
 ·rfl
 ·split
  ·rfl
  ·split <;> rfl
def Tl(x:Ws×List Pt):Told (je x).2:=by
 unfold je;split <;> rfl
def ru{e:aK}(h:Told e):aI (jq e)=e:=by
 cases e with
 |nil=>rfl
 |no m=>
  have h':0<m:=by have:=h;simpa[Told,yw,jq]using this
  have h2:¬m=0:=by omega
  show aI m=_;unfold aI;rw[if_neg h2]
 |other=>unfold Told at h;simp[yw]at h
def H5{e:aK}(h:Told e)(hn:e.isNil=false):0<jq e:=by
 cases e with
 |nil=>cases hn
 |no m=>
  have h':0<m:=by have:=h;simpa[Told,yw,jq]using this
  exact h'
 |other=>unfold Told at h;simp[yw]at h
abbrev Rk:=List aD×List (D aB)×List Int×List Pt×Int
def aY(rd:Rd)(root:aD):Rk:=
 if ¬(bF rd root).2.2=0 then([],[],[],[],(bF rd root).2.2)
 else if(cN (bZ (bF rd root).2.1,[])).2.isNil=false then([],[],[],[],jq (cN (bZ (bF rd root).2.1,[])).2)
 else if(iJ ((bF rd root).2.1,(cN (bZ (bF rd root).2.1,[])).1)).2.isNil=false then([],[],[],[],jq (iJ ((bF rd root).2.1,(cN (bZ (bF rd root).2.1,[])).1)).2)
 else((bF rd root).1,(bF rd root).2.1,(cN (bZ (bF rd root).2.1,[])).1,(iJ ((bF rd root).2.1,(cN (bZ (bF rd root).2.1,[])).1)).1,0)
def xI{rd:Rd}{root:aD}(h:¬(bF rd root).2.2=0):aY rd root=([],[],[],[],(bF rd root).2.2):=by unfold aY;rw[if_pos h]
def xJ{rd:Rd}{root:aD}(h:(bF rd root).2.2=0)(h1:(cN (bZ (bF rd root).2.1,[])).2.isNil=false):aY rd root=([],[],[],[],jq (cN (bZ (bF rd root).2.1,[])).2):=by
 unfold aY;rw[if_neg (not_not_intro h),if_pos h1]
def Cw{rd:Rd}{root:aD}(h:(bF rd root).2.2=0)(h1:(cN (bZ (bF rd root).2.1,[])).2.isNil=true)(h2:(iJ ((bF rd root).2.1,(cN (bZ (bF rd root).2.1,[])).1)).2.isNil=false) :
  aY rd root=([],[],[],[],jq (iJ ((bF rd root).2.1,(cN (bZ (bF rd root).2.1,[])).1)).2):=by
 unfold aY;rw[if_neg (not_not_intro h),if_neg (by rw[h1];decide),if_pos h2]
def zS{rd:Rd}{root:aD}(h:(bF rd root).2.2=0)(h1:(cN (bZ (bF rd root).2.1,[])).2.isNil=true)(h2:(iJ ((bF rd root).2.1,(cN (bZ (bF rd root).2.1,[])).1)).2.isNil=true) :
  aY rd root=((bF rd root).1,(bF rd root).2.1,(cN (bZ (bF rd root).2.1,[])).1,(iJ ((bF rd root).2.1,(cN (bZ (bF rd root).2.1,[])).1)).1,0):=by
 unfold aY;rw[if_neg (not_not_intro h),if_neg (by rw[h1];decide),if_neg (by rw[h2];decide)]
structure ki (rd:Rd) (root:aD) (ns:List aD) (os:List (D aB)) (bs:List Int) (ps:List Pt):Prop where
 e:bF rd root=(ns,os,0)
 sc:Scope rd root ns os
 eb:cN (bZ os,[])=(bs,.nil)
 ea:iJ (os,bs)=(ps,.nil)
 bl:bs.length=os.length
 bi:pR bs
 pt:ps=rf os bs os 0
 one:∀k,k<os.length->∀t∈(nth aB os k).2.2.2.1,(gX os bs (k:Int) t).2.isNil=true
 XF:∀i,i<ps.length->uj (dC os) (nth aR ps i)
def E3{e:aK}(h:e.isNil=true):e=.nil:=by cases e <;> first|rfl|cases h
def Scope.obj{rd:Rd}{root:aD}{ns:List aD}{os:List (D aB)}(ok:iR rd)(h:Scope rd root ns os){i:Nat}(hi:i<os.length):la (nth aB os i):=by
 have:=h.xG i (by rw[<-h.len];exact hi);rw[this.2];exact A0 ok this.1
def la.Tm{o:D aB}(h:la o):UQ o:=by
 refine⟨by have:=h.t6;omega,fun i hi =>?_,fun i hi =>?_⟩
 ·have:=(h.sym hi).2;unfold iv at this;unfold Small;omega
 ·have:=h.tie hi
  have a:=this.a;have w:=this.w;unfold iv at a w;unfold Small Word;omega
def Scope.Tm{rd:Rd}{root:aD}{ns:List aD}{os:List (D aB)}(ok:iR rd)(h:Scope rd root ns os):jP os:=⟨by have:=h.le;have:=h.len;omega,fun _ hi=>(h.obj ok hi).Tm⟩
def P7{a n:Int}(h:a<=n-1):a<n:=by omega
def Ks{o:D aB}(h:dB o=0):iq o.2.1.length [] o.2.2.1=0/\kT o.2.1.length none o.2.2.2.1=0:=by
 unfold dB at h;split at h
 ·cases h
 ·split at h
  ·rename_i h1;exact absurd h h1
  ·split at h
   ·rename_i h2;exact absurd h h2
   ·split at h
    ·rename_i h3;exact absurd h h3
    ·rename_i h3;exact⟨aq h3,h⟩
def Nq{o:D aB}(h:dB o=0){t:D bD}(ht:t∈o.2.2.2.1):0<=t.1/\t.1<(o.2.1.length:Int):=by
 obtain⟨p,hp⟩:=vu _ _ _ (Ks h).2 t ht;obtain⟨⟨a,b⟩,_⟩:=EV hp;exact⟨a,P7 b⟩
def Scope.fault{rd:Rd}{root:aD}{ns:List aD}{os:List (D aB)}(ok:iR rd)(h:Scope rd root ns os){i:Nat}(hi:i<os.length):dB (nth aB os i)=0:=by
 have:=h.xG i (by rw[<-h.len];exact hi);rw[this.2];exact vy (kg ok this.1).2
def sj{rd:Rd}(ok:iR rd)(root:aD):(∃f,0<f/\aY rd root=([],[],[],[],f))\/(∃ns os bs ps,aY rd root=(ns,os,bs,ps,0)/\ki rd root ns os bs ps):=by
 rcases zP ok root with⟨f,hf,e⟩|⟨ns,os,e,sc⟩
 ·exact .inl ⟨f,hf,by rw[xI (by rw[e];simp only;omega),e]⟩
 ·have e0:(bF rd root).2.2=0:=by rw[e]
  have e1:(bF rd root).2.1=os:=by rw[e]
  have e2:(bF rd root).1=ns:=by rw[e]
  cases hb:(cN (bZ os,[])).2.isNil with
  |false=>exact .inl ⟨_,H5 (Cv _) hb,by rw[xJ e0 (by rw[e1];exact hb),e1]⟩
  |true=>
   cases ha:(iJ (os,(cN (bZ os,[])).1)).2.isNil with
   |false=>exact .inl ⟨_,H5 (HD _) ha,by rw[Cw e0 (by rw[e1];exact hb) (by rw[e1];exact ha),e1]⟩
   |true=>
    obtain⟨a1,a2,a3,a4⟩:=Tk ha;refine .inr ⟨ns,os,_,_,by rw[zS e0 (by rw[e1];exact hb) (by rw[e1];exact ha),e1,e2],e,sc,Prod.ext rfl (E3 hb),Prod.ext rfl (E3 ha),a1,a2,a3,a4,fun i hi =>?_⟩;obtain⟨k,t,hk,ht,hp⟩:=A6 (by rw[<-a3];exact dN (t:=aR) hi);rw[hp];have:=Nq (sc.fault ok hk) ht;refine⟨by simp only;omega,by simp only;rw[nL];omega,this.1,?_⟩;simp only[dh];rw[show((k:Int)).toNat=k from rfl,vB hk];exact this.2
def jl(ns:List aD)(bs:List Int)(w:Ws)(n:Nat):List (D dG):=(ba n).map fun i=>(nth .str ns i,nth (.int .i64) bs i,nth jr w i,())
def Nr(ns:List aD)(bs:List Int)(w:Ws)(n:Nat):(jl ns bs w n).length=n:=by simp[jl]
def zT(ns:List aD)(bs:List Int)(w:Ws)(n:Nat):jl ns bs w (n+1)=jl ns bs w n++[(nth .str ns n,nth (.int .i64) bs n,nth jr w n,())]:=by simp[jl,cq]
def jO(ns:List aD)(bs:List Int)(os:List (D aB))(ps:List Pt):List (D dG)×aK:=
 if ¬ns.length=os.length\/¬bs.length=os.length then([],.no 3)
 else if(je (dC os,ps)).2.isNil=false then([],(je (dC os,ps)).2)
 else(jl ns bs (je (dC os,ps)).1 os.length,.nil)
def Cy{ns:List aD}{bs:List Int}{os:List (D aB)}{ps:List Pt}(h:¬ns.length=os.length\/¬bs.length=os.length):jO ns bs os ps=([],.no 3):=by unfold jO;rw[if_pos h]
def Tn{ns:List aD}{bs:List Int}{os:List (D aB)}{ps:List Pt}(h:ns.length=os.length)(h':bs.length=os.length)(hp:(je (dC os,ps)).2.isNil=false):jO ns bs os ps=([],(je (dC os,ps)).2):=by
 unfold jO;rw[if_neg (by rintro(e|e);exact e h;exact e h'),if_pos hp]
def DE{ns:List aD}{bs:List Int}{os:List (D aB)}{ps:List Pt}(h:ns.length=os.length)(h':bs.length=os.length)(hp:(je (dC os,ps)).2.isNil=true):jO ns bs os ps=(jl ns bs (je (dC os,ps)).1 os.length,.nil):=by
 unfold jO;rw[if_neg (by rintro(e|e);exact e h;exact e h'),if_neg (by rw[hp];decide)]
def H6(ns:List aD)(bs:List Int)(os:List (D aB))(ps:List Pt):Told (jO ns bs os ps).2:=by
 unfold jO;split
 ·rfl
 ·split
  ·exact Tl _
  ·rfl
def gK(rd:Rd)(root:aD):List (D dG)×Int:=
 if ¬(aY rd root).2.2.2.2=0 then([],(aY rd root).2.2.2.2)
 else((jO (aY rd root).1 (aY rd root).2.2.1 (aY rd root).2.1 (aY rd root).2.2.2.1).1,jq (jO (aY rd root).1 (aY rd root).2.2.1 (aY rd root).2.1 (aY rd root).2.2.2.1).2)
def ki.put{rd:Rd}{root:aD}{ns:List aD}{os:List (D aB)}{bs:List Int}{ps:List Pt}(h:ki rd root ns os bs ps):je (dC os,ps)=(lA (dC os) ps,.nil):=yy h.XF
def ki.lay{rd:Rd}{root:aD}{ns:List aD}{os:List (D aB)}{bs:List Int}{ps:List Pt}(h:ki rd root ns os bs ps):jO ns bs os ps=(jl ns bs (lA (dC os) ps) os.length,.nil):=by
 rw[DE h.sc.len.symm h.bl (by rw[h.put];rfl),h.put]
def To{rd:Rd}{root:aD}(h:¬(aY rd root).2.2.2.2=0):gK rd root=([],(aY rd root).2.2.2.2):=by unfold gK;rw[if_pos h]
def VA{rd:Rd}{root:aD}{ns:List aD}{os:List (D aB)}{bs:List Int}{ps:List Pt}(e:aY rd root=(ns,os,bs,ps,0))(h:ki rd root ns os bs ps):gK rd root=(jl ns bs (lA (dC os) ps) os.length,0):=by
 unfold gK;rw[e,if_neg (by simp),h.lay];rfl
def ki.sum{rd:Rd}{root:aD}{ns:List aD}{os:List (D aB)}{bs:List Int}{ps:List Pt}(h:ki rd root ns os bs ps) :
  (∀j,j<os.length->1<=(nth aB os j).2.1.length/\(nth aB os j).2.1.length<=40)/\ji (bZ os) os.length<=256/\∀i,i<os.length->(nth (.int .i64) bs i:Int)=ji (bZ os) i:=by
 have hb:(cN (bZ os,[])).2.isNil=true:=by rw[h.eb];rfl
 have hn:(cN (bZ os,[])).1=bs:=by rw[h.eb]
 obtain⟨_,h2,h3,h4⟩:=P6 hb;rw[hn]at h4;have hl:=pJ os;refine⟨fun j hj =>?_,by rw[hl]at h3;exact h3,fun i hi=>h4 i (by omega)⟩;have:=h2 j (by omega);rw[Cu hj]at this;exact⟨dc.1 this.1,dc.1 this.2⟩
def XG(p:D dG)(a:Int):Prop:=(p.2.1:Int)<=a/\a<(p.2.1:Int)+(p.2.2.1.length:Int)
instance(p:D dG)(a:Int):Decidable (XG p a):=inferInstanceAs (Decidable (_/\_))
def UT:List (D dG)->Int->Int×Bool
 |[],_=>(0,false)
 |p :: l,a=>if XG p a then(nth (.int .i64) p.2.2.1 (a-p.2.1).toNat,true)else UT l a
def P8{rd:Rd}(ok:iR rd){root:aD}(h:(bF rd root).2.2=0):(bF rd root).2.1.length<=6:=by
 have:=(A4 ok h).le;have:=(A4 ok h).len;omega
def Ns{rd:Rd}(ok:iR rd){root:aD}(h:(bF rd root).2.2=0):jP (bF rd root).2.1:=(A4 ok h).Tm ok
def VB{l:List (D aB)}(h:l.length<=1000/\∀i,i<l.length->(nth aB l i).2.1.length<=1000) :
  (dC l).length<=100000/\∀i,i<(dC l).length->(nth jr (dC l) i).length<=100000000:=by
 refine⟨by rw[nL];omega,fun i hi =>?_⟩;rw[nL]at hi;rw[vB hi];have:=h.2 i hi;omega
def Nt{rd:Rd}(ok:iR rd){root:aD}{ns:List aD}{os:List (D aB)}(h:Scope rd root ns os):os.length<=1000/\∀i,i<os.length->(nth aB os i).2.1.length<=1000:=by
 refine⟨by have:=h.le;have:=h.len;omega,fun i hi =>?_⟩;exact b5 (h.obj ok hi).US (by decide)
def H7{rd:Rd}(ok:iR rd){root:aD}(h:(aY rd root).2.2.2.2=0) :
  (aY rd root).2.1.length<=1000/\∀i,i<(aY rd root).2.1.length->(nth aB (aY rd root).2.1 i).2.1.length<=1000:=by
 rcases sj ok root with⟨f,hf,e⟩|⟨ns,os,bs,ps,e,hr⟩
 ·rw[e]at h;simp at h;omega
 ·rw[e];exact Nt ok hr.sc
def Tp{rd:Rd}{root:aD}(h:(aY rd root).2.2.2.2=0) :
  ((jO (aY rd root).1 (aY rd root).2.2.1 (aY rd root).2.1 (aY rd root).2.2.2.1).1,(jO (aY rd root).1 (aY rd root).2.2.1 (aY rd root).2.1 (aY rd root).2.2.2.1).2,())=
   ((gK rd root).1,aI (gK rd root).2,()):=by
 unfold gK;rw[if_neg (not_not_intro h)];simp only[ru (H6 _ _ _ _)]
def eG{f:Int}(h:(aI f).isNil=false):¬f=0:=fun e=>by rw[aQ.2 e]at h;cases h
def Tq(x:List (D aB)×List Int):aI (jq (iJ x).2)=(iJ x).2:=ru (HD x)
def H8{α:Type}{l:List α}{i:Nat}(h:¬i<l.length):l.take i=l:=cg (by omega)
abbrev UU:=Unit×List (List UInt8)×List Int×List (D aS)×List (D bD)×(Bool×Unit)×Unit
def Ts(x:UU):D aB:=(x.2.1,x.2.2.1,x.2.2.2.1,x.2.2.2.2.1,())
def P9(p:D aB×Bool):UU:=((),p.1.1,p.1.2.1,p.1.2.2.1,p.1.2.2.2.1,(p.2,()),())
def H9(s p:aD):(ax s p).length<=s.length:=by unfold ax;split <;> simp
def LD{s:aD}{w:List aD}(hw:w=parts 32 (ax s eA))(i:Nat):(nth .str w i).length<=s.length:=by
 by_cases h:i<w.length
 ·have h1:=dN (t:=.str) h
  rw[hw]at h1;have:=oO _ _ _ h1;rw[<-hw]at this;exact b5 this (H9 _ _)
 ·unfold nth;rw[List.getD_eq_getElem?_getD,List.getElem?_eq_none (by omega)];exact ar _
def Tt{s:aD}{w:List aD}(hw:w=parts 32 (ax s eA)):0<w.length:=by rw[hw];exact List.length_pos_iff.2 (AS _ _)
def l8{c:Bool}{P:Prop}(q:c=true↔P)(h:c=false):¬P:=fun p=>by rw[q.2 p]at h;cases h
section
variable{o:D aB}{b:Bool}{s:aD}{w:List aD}(hw:w=parts 32 (ax s eA))
include hw
def Nu(h:nth .str w 0=kv/\w.length=2):gJ o b s=(qc o (nth .str w 1),b):=by
 unfold gJ;simp only;rw[<-hw,if_pos h]
def Nv(h0:¬(nth .str w 0=kv/\w.length=2))(h:nth .str w 0=jV/\w.length=2):gJ o b s=(qd o (eD (nth .str w 1)).1,b || (cT (nth .str w 1)).isNone):=by
 unfold gJ;simp only;rw[<-hw,if_neg h0,if_pos h]
def Qa(h0:¬(nth .str w 0=kv/\w.length=2))(h1:¬(nth .str w 0=jV/\w.length=2))(h:nth .str w 0=js/\w.length=3) :
  gJ o b s=(ur o (nth .str w 1,(eD (nth .str w 2)).1,av s eA,()),b || (cT (nth .str w 2)).isNone):=by
 unfold gJ;simp only;rw[<-hw,if_neg h0,if_neg h1,if_pos h]
def Nw(h0:¬(nth .str w 0=kv/\w.length=2))(h1:¬(nth .str w 0=jV/\w.length=2))(h2:¬(nth .str w 0=js/\w.length=3))(h:nth .str w 0=mM/\w.length=3) :
  gJ o b s=(pF o ((eD (nth .str w 1)).1,1,(eD (nth .str w 2)).1,[],false,()),(b || (cT (nth .str w 1)).isNone) || (cT (nth .str w 2)).isNone):=by
 unfold gJ;simp only;rw[<-hw,if_neg h0,if_neg h1,if_neg h2,if_pos h]
def E4(h0:¬(nth .str w 0=kv/\w.length=2))(h1:¬(nth .str w 0=jV/\w.length=2))(h2:¬(nth .str w 0=js/\w.length=3))(h3:¬(nth .str w 0=mM/\w.length=3))
  (h:(nth .str w 0=lF\/nth .str w 0=lj)/\w.length=4){k:Int}(hk:k=if nth .str w 0=lj then 3 else 2) :
  gJ o b s=(pF o ((eD (nth .str w 1)).1,k,(eD (nth .str w 2)).1,nth .str w 3,av s eA,()),(b || (cT (nth .str w 1)).isNone) || (cT (nth .str w 2)).isNone):=by
 unfold gJ;simp only;rw[<-hw,if_neg h0,if_neg h1,if_neg h2,if_neg h3,if_pos h,hk]
def Nx(h0:¬(nth .str w 0=kv/\w.length=2))(h1:¬(nth .str w 0=jV/\w.length=2))(h2:¬(nth .str w 0=js/\w.length=3))(h3:¬(nth .str w 0=mM/\w.length=3))
  (h:¬((nth .str w 0=lF\/nth .str w 0=lj)/\w.length=4)):gJ o b s=(o,true):=by
 unfold gJ;simp only;rw[<-hw,if_neg h0,if_neg h1,if_neg h2,if_neg h3,if_neg h]
end
def oq(s:aD):D aB×aK:=((cW s).1,aI (cW s).2)
def Ny{s:aD}(h:s.length > 1200):(bY aB,aK.no 2)=oq s:=by unfold oq;rw[E1 h];rfl
def lG.run{L:List aD}{i:Nat}{o:D aB}{b:Bool}(h:lG L i o b)(hi:¬i<L.length):(run pG (bY aB) L=some o/\b=false)\/(run pG (bY aB) L=none/\b=true):=by
 have:=h.st
 rwa [cg (by omega)]at this
def xK{s:aD}{i:Nat}{o:D aB}{b:Bool}(h:lG (parts 10 (ae s [10])) i o b)(hi:¬i<(parts 10 (ae s [10])).length)(hl:¬s.length > 1200)
  (hb:b=true\/(ku o).2.isNil=false\/¬(ku o).1=s):(bY aB,aK.no 4)=oq s:=by
 have:cW s=(bY aB,4):=by
  rcases h.run hi with⟨hr,h0⟩|⟨hr,h0⟩
  ·rcases hb with hb|hb|hb
   ·rw[hb]at h0;cases h0
   ·refine Cq hl hr fun hf ht =>?_
    rw[vw hf rfl (by show(iP o).length<=1200;rw[ht];omega)]at hb;cases hb
   ·refine Cq hl hr fun hf ht=>hb ?_
    rw[vw hf rfl (by show(iP o).length<=1200;rw[ht];omega)];exact ht
  ·exact Nl hl hr
 unfold oq;rw[this];rfl
def Tu{s:aD}{o:D aB}(hl:¬s.length > 1200)
  (hn:(ku o).2.isNil=true)(ht:(ku o).1=s):(o,aK.nil)=oq s:=by
 have hf:dB o=0:=by
  apply aq;intro hf;rw[EY hf]at hn;exact hf (aQ.1 hn)
 have hs:iP o=s:=by
  by_cases h:(iP o).length > 1200
  ·rw[Co hf rfl h]at hn;cases hn
  ·rw[vw hf rfl (by show(iP o).length<=1200;omega)]at ht;exact ht
 unfold oq;rw[DC hl hf hs];rfl
def yE(s p:aD):(ae s p).length<=s.length:=by unfold ae;split <;> simp
def Qb(s:aD)(h:s.length<=1200):(parts 10 (ae s [10])).length<=1201:=by
 have h1:=sY 10 (ae s [10]);have h2:(ae s [10]).length<=s.length:=by unfold ae;split <;> simp
 omega
def Nz{s:aD}(h:s.length<=1200)(i:Nat):(nth .str (parts 10 (ae s [10])) i).length<=1200:=by
 by_cases hi:i<(parts 10 (ae s [10])).length
 ·have:=oO _ _ _ (dN (t:=.str) hi)
  have h2:(ae s [10]).length<=s.length:=by unfold ae;split <;> simp
  omega
 ·unfold nth;rw[List.getD_eq_getElem?_getD,List.getElem?_eq_none (by omega)];exact ar _
section
variable{o:D aB}{b:Bool}{w:List aD}{k:Nat}
end
def eT{k n:Nat}(h:(k:Int)<(n:Int)):(decide ((k:Int)<3))=true↔((k:Int)<(n:Int)/\(k:Int)<3):=by
 rw[decide_eq_true_eq];omega
def cE(rd:Rd)(ns:List aD)(bs:List Int)(n:Nat):List (D aG):=(ba n).map fun i=>(nth .str ns i,(rd (nth .str ns i)).2.1,nth (.int .i64) bs i,())
def fC(rd:Rd)(ns:List aD)(bs:List Int)(n:Nat):(cE rd ns bs n).length=n:=by simp[cE]
def xL(rd:Rd)(ns:List aD)(bs:List Int)(n:Nat):cE rd ns bs (n+1)=cE rd ns bs n++[(nth .str ns n,(rd (nth .str ns n)).2.1,nth (.int .i64) bs n,())]:=by simp[cE,cq]
def jx{rd:Rd}{ns:List aD}{bs:List Int}{n i:Nat}(h:i<n):nth aG (cE rd ns bs n) i=(nth .str ns i,(rd (nth .str ns i)).2.1,nth (.int .i64) bs i,()):=by
 apply iF;simp[cE,h]
def eI(rd:Rd)(root:aD):D aC×Int:=
 if ¬(aY rd root).2.2.2.2=0 then(bY aC,(aY rd root).2.2.2.2)
 else((root,cE rd (aY rd root).1 (aY rd root).2.2.1 (aY rd root).1.length,(aY rd root).2.2.2.1,()),0)
def Ia{rd:Rd}{root:aD}(h:¬(aY rd root).2.2.2.2=0):eI rd root=(bY aC,(aY rd root).2.2.2.2):=by unfold eI;rw[if_pos h]
def yF{rd:Rd}{root:aD}(h:(aY rd root).2.2.2.2=0):eI rd root=((root,cE rd (aY rd root).1 (aY rd root).2.2.1 (aY rd root).1.length,(aY rd root).2.2.2.1,()),0):=by
 unfold eI;rw[if_neg (not_not_intro h)]
def NA{rd:Rd}(ok:iR rd)(root:aD):(∃f,0<f/\aY rd root=([],[],[],[],f)/\eI rd root=(bY aC,f))\/
  (∃ns os bs ps,aY rd root=(ns,os,bs,ps,0)/\ki rd root ns os bs ps/\eI rd root=((root,cE rd ns bs ns.length,ps,()),0)):=by
 rcases sj ok root with⟨f,hf,e⟩|⟨ns,os,bs,ps,e,h⟩
 ·exact .inl ⟨f,hf,e,by rw[Ia (by rw[e];simp only;omega),e]⟩
 ·exact .inr ⟨ns,os,bs,ps,e,h,by rw[yF (by rw[e]),e]⟩
def jm(rd:Rd)(p:D aG):Bool:=decide ((rd p.1).2.2=0)&&decide ((rd p.1).2.1=p.2.1)
def fP(rd:Rd)(e:D aC):Bool:=e.2.1.all (jm rd)&&decide (0<e.2.1.length)
def Ib{rd:Rd}{e:D aC}{i:Nat}(h:i<e.2.1.length)(hf:jm rd (nth aG e.2.1 i)=false):fP rd e=false:=by
 unfold fP;have:e.2.1.all (jm rd)=false:=c6.2 ⟨_,dN (t:=aG) h,by rw[hf];decide⟩;rw[this];rfl
def E5{rd:Rd}{e:D aC}(h:∀i,i<e.2.1.length->jm rd (nth aG e.2.1 i)=true):fP rd e=decide (0<e.2.1.length):=by
 unfold fP;have:e.2.1.all (jm rd)=true:=ca.2 fun x hx=>by
  obtain⟨i,hi,rfl⟩:=gV (t:=aG) hx;exact h i hi
 rw[this];rfl
def E6{rd:Rd}{e:D aC}(h:fP rd e=true):0<e.2.1.length/\∀i,i<e.2.1.length->(rd (nth aG e.2.1 i).1).2.2=0/\(rd (nth aG e.2.1 i).1).2.1=(nth aG e.2.1 i).2.1:=by
 unfold fP at h;rw[af,ca,decide_eq_true_eq]at h;refine⟨h.2,fun i hi =>?_⟩;have:=h.1 _ (dN (t:=aG) hi);unfold jm at this;rw[af,decide_eq_true_eq,decide_eq_true_eq]at this;exact this
def mN(rd:Rd):List (D aG)->Int
 |[]=>0
 |p :: r=>if(cW (rd p.1).1).2=0 then mN rd r else(cW (rd p.1).1).2
def fT(rd:Rd)(l:List (D aG)):List (D aB):=l.map fun p=>(cW (rd p.1).1).1
def fX(l:List (D aG)):List aD:=l.map fun p=>p.1
def fY(l:List (D aG)):List Int:=l.map fun p=>p.2.2.1
def Ic{rd:Rd}:∀{l:List (D aG)} {i:Nat},(∀j,j<i->(cW (rd (nth aG l j).1).1).2=0)->i<l.length->¬(cW (rd (nth aG l i).1).1).2=0->mN rd l=(cW (rd (nth aG l i).1).1).2
 |[],i,_,h,_=>by simp at h
 |p :: r,0,_,_,h=>by unfold mN;rw[if_neg (show ¬(cW (rd p.1).1).2=0 from h)];rfl
 |p :: r,i+1,h,h1,h2=>by
  unfold mN;rw[if_pos (show(cW (rd p.1).1).2=0 from h 0 (by omega))];exact Ic (l:=r) (i:=i) (fun j hj=>h (j+1) (by omega)) (by simpa using h1) h2
def vC{rd:Rd}:∀{l:List (D aG)},(∀j,j<l.length->(cW (rd (nth aG l j).1).1).2=0)->mN rd l=0
 |[],_=>rfl
 |p :: r,h=>by
  unfold mN;rw[if_pos (show(cW (rd p.1).1).2=0 from h 0 (by simp))];exact vC (l:=r) fun j hj=>h (j+1) (by simpa using hj)
def Ie(rd:Rd):∀l:List (D aG),0<=mN rd l
 |[]=>az _
 |p :: r=>by
  unfold mN;split
  ·exact Ie rd r
  ·exact zO _
def kB(rd:Rd)(e:D aC):List (D dG)×Int:=
 if fP rd e=false then([],10)
 else if ¬mN rd e.2.1=0 then([],mN rd e.2.1)
 else((jO (fX e.2.1) (fY e.2.1) (fT rd e.2.1) e.2.2.1).1,jq (jO (fX e.2.1) (fY e.2.1) (fT rd e.2.1) e.2.2.1).2)
def Qc{rd:Rd}{e:D aC}(h:fP rd e=false):kB rd e=([],10):=by unfold kB;rw[if_pos h]
def VD{rd:Rd}{e:D aC}(h:fP rd e=true){f:Int}(hb:mN rd e.2.1=f)(h0:¬f=0):kB rd e=([],f):=by
 unfold kB;rw[if_neg (by rw[h];decide),if_pos (by rw[hb];exact h0),hb]
def Qd{rd:Rd}{e:D aC}(h:fP rd e=true)(hb:mN rd e.2.1=0) :
  kB rd e=((jO (fX e.2.1) (fY e.2.1) (fT rd e.2.1) e.2.2.1).1,jq (jO (fX e.2.1) (fY e.2.1) (fT rd e.2.1) e.2.2.1).2):=by
 unfold kB;rw[if_neg (by rw[h];decide),if_neg (not_not_intro hb)]
def kj{t:Ty}{a b:List (D t)}(hl:a.length=b.length)(h:∀i,i<a.length->nth t a i=nth t b i):a=b:=zH (t:=t) hl h
def Ig{rd:Rd}{ns:List aD}{bs:List Int}:fX (cE rd ns bs ns.length)=ns:=by
 refine kj (t:=.str) (by simp[fX,cE]) fun i hi =>?_
 have hi':i<ns.length:=by simpa[fX,cE]using hi
 unfold fX;rw[rJ (u:=aG) (t:=.str) (by rw[fC];exact hi'),jx hi']
def Ih{rd:Rd}{ns:List aD}{bs:List Int}(h:bs.length=ns.length):fY (cE rd ns bs ns.length)=bs:=by
 refine kj (t:=.int .i64) (by simp[fY,cE,h]) fun i hi =>?_
 have hi':i<ns.length:=by simpa[fY,cE]using hi
 unfold fY;rw[rJ (u:=aG) (t:=.int .i64) (by rw[fC];exact hi'),jx hi']
def ki.fresh{rd:Rd}(ok:iR rd){root:aD}{ns:List aD}{os:List (D aB)}{bs:List Int}{ps:List Pt}(h:ki rd root ns os bs ps):fP rd (root,cE rd ns bs ns.length,ps,())=true:=by
 rw[E5]
 ·exact decide_eq_true (by show 0<(cE rd ns bs ns.length).length;rw[fC];exact h.sc.pos)
 ·intro i hi
  have hi:i<ns.length:=by have:i<(cE rd ns bs ns.length).length:=hi;rwa [fC]at this
  show jm rd (nth aG (cE rd ns bs ns.length) i)=true;rw[jx hi];unfold jm;rw[decide_eq_true (kg ok (h.sc.xG i hi).1).1,decide_eq_true rfl];rfl
def ki.aF{rd:Rd}{root:aD}{ns:List aD}{os:List (D aB)}{bs:List Int}{ps:List Pt}(h:ki rd root ns os bs ps){rd':Rd}(hs:∀s∈ns,(rd' s).1=(rd s).1):fT rd' (cE rd ns bs ns.length)=os:=by
 refine kj (t:=aB) (by simp[fT,cE,h.sc.len]) fun i hi =>?_
 have hi':i<ns.length:=by simpa[fT,cE]using hi
 unfold fT;rw[rJ (u:=aG) (t:=aB) (by rw[fC];exact hi'),jx hi',(h.sc.xG i hi').2];unfold jw;rw[hs _ (dN (t:=.str) hi')]
def ki.bad{rd:Rd}(ok:iR rd){root:aD}{ns:List aD}{os:List (D aB)}{bs:List Int}{ps:List Pt}(h:ki rd root ns os bs ps){rd':Rd}(hs:∀s∈ns,(rd' s).1=(rd s).1):mN rd' (cE rd ns bs ns.length)=0:=by
 refine vC fun j hj =>?_
 rw[fC]at hj;rw[jx hj];simp only;rw[hs _ (dN (t:=.str) hj)];exact(kg ok (h.sc.xG j hj).1).2
def ki.use{rd:Rd}(ok:iR rd){root:aD}{ns:List aD}{os:List (D aB)}{bs:List Int}{ps:List Pt}(h:ki rd root ns os bs ps){rd':Rd}(hs:∀s∈ns,(rd' s).1=(rd s).1)
  (hf:fP rd' (root,cE rd ns bs ns.length,ps,())=true):kB rd' (root,cE rd ns bs ns.length,ps,())=(jl ns bs (lA (dC os) ps) os.length,0):=by
 rw[Qd hf (h.bad ok hs)];simp only;rw[Ig,Ih (by rw[h.bl,h.sc.len]),h.aF hs,h.lay];rfl
def eM(p:D aG):Int:=if aP p.1 > 0 then aP p.1 else if p.2.1<1\/p.2.1 > 1000000\/p.2.2.1<0\/p.2.2.1 > 255\/p.2.2.1 % 16 > 0 then 1 else 0
def mA:List (D aG)->Int
 |[]=>0
 |p :: r=>if eM p=0 then mA r else eM p
def eR(n:Nat)(p:Pt):Int:=if p.1<0\/p.1>=(n:Int)\/p.2.1<0\/p.2.1 > 39\/im p.2.2.1=false then 1 else 0
def l9(n:Nat):List Pt->Int
 |[]=>0
 |p :: r=>if eR n p=0 then l9 n r else eR n p
def rv(e:D aC):Prop:=e.2.1.length<1\/e.2.1.length > 6\/e.2.2.1.length > 36
instance(e:D aC):Decidable (rv e):=by unfold rv;infer_instance
def bC(e:D aC):Int:=
 if aP e.1 > 0 then aP e.1 else if rv e then 2 else if ¬mA e.2.1=0 then mA e.2.1 else l9 e.2.1.length e.2.2.1
def Gi(p:D aG):0<=eM p:=by
 unfold eM;split
 ·omega
 ·split <;> decide
def Gj(n:Nat)(p:Pt):0<=eR n p:=by unfold eR;split <;> decide
def uw:∀l:List (D aG),0<=mA l
 |[]=>az _
 |p :: r=>by
  unfold mA;split
  ·exact uw r
  ·exact Gi p
def ta(n:Nat):∀l:List Pt,0<=l9 n l
 |[]=>az _
 |p :: r=>by
  unfold l9;split
  ·exact ta n r
  ·exact Gj n p
def Gk(e:D aC):0<=bC e:=by
 unfold bC;split
 ·omega
 ·split
  ·decide
  ·split
   ·exact uw _
   ·exact ta _ _
def Cz:∀{l:List (D aG)} {i:Nat},(∀j,j<i->eM (nth aG l j)=0)->i<l.length->¬eM (nth aG l i)=0->mA l=eM (nth aG l i)
 |[],i,_,h,_=>by simp at h
 |p :: r,0,_,_,h=>by unfold mA;rw[if_neg (show ¬eM p=0 from h)];rfl
 |p :: r,i+1,h,h1,h2=>by
  unfold mA;rw[if_pos (show eM p=0 from h 0 (by omega))];exact Cz (l:=r) (i:=i) (fun j hj=>h (j+1) (by omega)) (by simpa using h1) h2
def sk:∀{l:List (D aG)},(∀j,j<l.length->eM (nth aG l j)=0)->mA l=0
 |[],_=>rfl
 |p :: r,h=>by
  unfold mA;rw[if_pos (show eM p=0 from h 0 (by simp))];exact sk (l:=r) fun j hj=>h (j+1) (by simpa using hj)
def zU{n:Nat}:∀{l:List Pt} {i:Nat},(∀j,j<i->eR n (nth aR l j)=0)->i<l.length->¬eR n (nth aR l i)=0->l9 n l=eR n (nth aR l i)
 |[],i,_,h,_=>by simp at h
 |p :: r,0,_,_,h=>by unfold l9;rw[if_neg (show ¬eR n p=0 from h)];rfl
 |p :: r,i+1,h,h1,h2=>by
  unfold l9;rw[if_pos (show eR n p=0 from h 0 (by omega))];exact zU (l:=r) (i:=i) (fun j hj=>h (j+1) (by omega)) (by simpa using h1) h2
def wc{n:Nat}:∀{l:List Pt},(∀j,j<l.length->eR n (nth aR l j)=0)->l9 n l=0
 |[],_=>rfl
 |p :: r,h=>by
  unfold l9;rw[if_pos (show eR n p=0 from h 0 (by simp))];exact wc (l:=r) fun j hj=>h (j+1) (by simpa using hj)
def zV{e:D aC}(h:aP e.1 > 0):bC e=aP e.1:=by unfold bC;rw[if_pos h]
def qA{e:D aC}(h:aP e.1<=0)(h1:rv e):bC e=2:=by unfold bC;rw[if_neg (by omega),if_pos h1]
def jE{e:D aC}(h:aP e.1<=0)(h1:¬rv e){i:Nat}(hs:∀j,j<i->eM (nth aG e.2.1 j)=0)(hi:i<e.2.1.length){f:Int}(hf:eM (nth aG e.2.1 i)=f)(h0:f≠0):bC e=f:=by
 have:=Cz hs hi (by rw[hf];exact h0);unfold bC;rw[if_neg (by omega),if_neg h1,if_pos (by rw[this,hf];exact h0),this,hf]
def jG{e:D aC}(h:aP e.1<=0)(h1:¬rv e)(h2:∀j,j<e.2.1.length->eM (nth aG e.2.1 j)=0){i:Nat}(hs:∀j,j<i->eR e.2.1.length (nth aR e.2.2.1 j)=0)(hi:i<e.2.2.1.length)
  (hf:eR e.2.1.length (nth aR e.2.2.1 i)=1):bC e=1:=by
 unfold bC;rw[if_neg (by omega),if_neg h1,if_neg (not_not_intro (sk h2)),zU hs hi (by rw[hf];decide),hf]
def E7{e:D aC}(h:aP e.1<=0)(h1:¬rv e)(h2:∀j,j<e.2.1.length->eM (nth aG e.2.1 j)=0)(h3:∀j,j<e.2.2.1.length->eR e.2.1.length (nth aR e.2.2.1 j)=0):bC e=0:=by
 unfold bC;rw[if_neg (by omega),if_neg h1,if_neg (not_not_intro (sk h2)),wc h3]
section
variable{rd:Rd}{root:aD}{i:Nat}{ns:List aD}{os:List (D aB)}
def ld.Tv(ok:iR rd)(h:ld rd root i ns os)(hi:i<ns.length)(he:¬(rd (nth .str ns i)).2.2=0) :
  bF rd root=([],[],(rd (nth .str ns i)).2.2):=by
 rw[h.bad hi (by rw[xE he];exact he),xE he]
def ld.VE(h:ld rd root i ns os)(hi:i<ns.length)(he:(rd (nth .str ns i)).2.2=0)(ho:¬(cW (rd (nth .str ns i)).1).2=0) :
  bF rd root=([],[],(cW (rd (nth .str ns i)).1).2):=by
 rw[h.bad hi (by rw[tL he];exact ho),tL he]
def DF{s:aD}(he:(rd s).2.2=0)(ho:(cW (rd s).1).2=0):eO rd s=0:=by rw[tL he];exact ho
def ld.XN(h:ld rd root i ns os):os.length+1<=1000000000:=by have:=h.len;have:=h.le;omega
def ld.WW(h:ld rd root i ns os)(ok:iR rd){s:aD}(hf:eO rd s=0)(k:Nat):(gF ns (ah k (jw rd s).1)).length+1<=1000000000:=by
 obtain⟨r,h1,h2,_⟩:=oR (ah k (jw rd s).1) ns;have:=(A0 ok hf).n4;have:=h.hi;have:=h.le;rw[h1,aw];rw[bh]at h2;omega
def LF{l:List aD}{k:Nat}(h:k<l.length)(hn:(gF ns (l.take k)).any (fun x=>x == nth .str l k)=false):gF ns (l.take k)++[nth .str l k]=gF ns (l.take (k+1)):=by
 rw[E2 h,if_neg (by rw[hn];exact Bool.false_ne_true)]
def LG{l:List aD}{k:Nat}(h:k<l.length)(hn:(gF ns (l.take k)).any (fun x=>x == nth .str l k)=true):gF ns (l.take k)=gF ns (l.take (k+1)):=by
 rw[E2 h,if_pos hn]
def LH{l:List aD}{k:Nat}(h:¬k<l.length):gF ns (l.take k)=gF ns l:=by rw[cg (by omega)]
end
def Qe{rd:Rd}{root:aD}{ns:List aD}{os:List (D aB)}{bs:List Int}{ps:List Pt}{w:Ws}(h:bF rd root=(ns,os,0))(hb:cN (bZ os,[])=(bs,.nil))(ha:iJ (os,bs)=(ps,.nil))
  (hn:ns.length=os.length)(hl:bs.length=os.length)(hp:∀i,i<ps.length->uj (dC os) (nth aR ps i))(hw:lA (dC os) ps=w):gK rd root=(jl ns bs w os.length,0):=by
 have e:aY rd root=(ns,os,bs,ps,0):=by
  unfold aY;rw[h];simp only[hb,ha,aK.isNil];rfl
 unfold gK;rw[e,if_neg (by simp)];have hq:je (dC os,ps)=(w,.nil):=by rw[yy hp,hw]
 simp only;rw[DE hn hl (by rw[hq];rfl),hq];rfl
def A7:aD:=[119,111,114,100,32,53,10,98,97,115,101,32,48,32,51,10]
abbrev WX:D aB:=([],[5],[],[(0,1,3,[],false,())],())
def Xt:cW A7=(WX,0):=by
 have i5:ab 5=[53]:=by rw[AT (by decide) (by decide)];rfl
 have i0:ab 0=[48]:=by rw[AT (by decide) (by decide)];rfl
 have i3:ab 3=[51]:=by rw[AT (by decide) (by decide)];rfl
 refine DC (by decide) (by decide) ?_;simp only[iP,jC,nW,nV,pE,vt,tJ,iO,da,fl,fc,fk,bx,List.flatMap_nil,i5,i0,i3];decide
def Qf{rd:Rd}{a t:aD}{n:Int}{o:D aB}(h:rd a=(t,n,0))(ho:cW t=(o,0))(hn:o.1=[]):bF rd a=([a],[o],0):=by
 have fa:eO rd a=0:=by unfold eO;rw[h];show(if(0:Int)=0 then(cW t).2 else 0)=0;rw[ho];rfl
 have oa:jw rd a=o:=by unfold jw;rw[h];show(cW t).1=o;rw[ho]
 have n0:nth .str [a] 0=a:=rfl;unfold bF;rw[jk,if_pos (by simp),n0,if_pos fa,oa,hn,H2,jk,if_neg (by simp)];rfl
def Ii{rd rd':Rd}{root:aD}(h:bF rd' root=bF rd root):aY rd' root=aY rd root:=by unfold aY;rw[h]
def E8{s k:aD}(h:¬k=s):∀{es:List FE},cZ cK (fW cK es s) k=cZ cK es k/\jc cK (fW cK es s) k=jc cK es k
 |[]=>⟨rfl,rfl⟩
 |y :: es=>by
  obtain⟨h1,h2⟩:=E8 h (es:=es);by_cases e:y.1=s
  ·have hk:¬y.1=k:=fun e'=>h (e'.symm.trans e)
   have hs:¬s=k:=fun e'=>h e'.symm
   have hd:fW cK (y :: es) s=es:=if_pos e;rw[hd];constructor
   ·simp[cZ,hk]
   ·show jc cK es k=if y.1=k then y.2.1 else jc cK es k;rw[if_neg hk]
  ·have hd:fW cK (y :: es) s=y :: fW cK es s:=if_neg e
   rw[hd];constructor
   ·simp only[cZ]at h1 ⊢;simp[h1]
   ·show(if y.1=k then y.2.1 else jc cK (fW cK es s) k)=if y.1=k then y.2.1 else jc cK es k;rw[h2]
def Qg{x:cG}{s k:aD}(h:¬k=s):aL (fL x s).1 k=aL x k:=by
 cases hh:cZ cK x.2.1.1 s with
 |false=>rw[mz hh]
 |true=>
  rw[lE hh];unfold aL;obtain⟨h1,h2⟩:=E8 h (es:=x.2.1.1);simp only[h1,h2]
def dH.ok{x:cG}(h:dH x):iR (aL x):=jD h.pre.1
def E9{rd:Rd}(ok:iR rd){s:aD}(h:(aY rd s).2.2.2.2=0):ki rd s (aY rd s).1 (aY rd s).2.1 (aY rd s).2.2.1 (aY rd s).2.2.2.1:=by
 rcases sj ok s with⟨f,hf,e⟩|⟨ns,os,bs,ps,e,hr⟩
 ·rw[e]at h;exact absurd (show f=0 from h) (by omega)
 ·rw[e];exact hr
def Fa{rd:Rd}(ok:iR rd){s:aD}(h:(aY rd s).2.2.2.2=0){i:Nat}(hi:i<(aY rd s).1.length):(rd (nth .str (aY rd s).1 i)).2.2=0:=
 (kg ok ((E9 ok h).sc.xG i hi).1).1
def Fb{rd:Rd}(ok:iR rd){s:aD}(h:(aY rd s).2.2.2.2=0):(aY rd s).2.2.1.length=(aY rd s).1.length/\(aY rd s).1.length<=6:=by
 have hr:=E9 ok h;exact⟨by rw[hr.bl,hr.sc.len],hr.sc.le⟩
def zW{l:List (D aG)}{i:Nat}(h:i<l.length):fX (l.take i)++[(nth aG l i).1]=fX (l.take (i+1)):=by rw[lM (t:=aG) h];simp[fX]
def zX{l:List (D aG)}{i:Nat}(h:i<l.length):fY (l.take i)++[(nth aG l i).2.2.1]=fY (l.take (i+1)):=by rw[lM (t:=aG) h];simp[fY]
def CA{rd:Rd}{l:List (D aG)}{i:Nat}(h:i<l.length):fT rd (l.take i)++[(cW (rd (nth aG l i).1).1).1]=fT rd (l.take (i+1)):=by rw[lM (t:=aG) h];simp[fT]
def Qh{rd:Rd}{l:List (D aG)}(hl:l.length<=1000)(h:∀j,j<l.length->(cW (rd (nth aG l j).1).1).2=0) :
  (fT rd l).length<=1000/\∀i,i<(fT rd l).length->(nth aB (fT rd l) i).2.1.length<=1000:=by
 have e:(fT rd l).length=l.length:=by simp[fT]
 refine⟨by omega,fun i hi =>?_⟩;have hi':i<l.length:=by omega
 rw[show nth aB (fT rd l) i=(cW (rd (nth aG l i).1).1).1 from rJ (t:=aB) (u:=aG) hi'];exact b5 (ng (vy (h i hi'))).US (by decide)
def Qi{rd:Rd}{p:D aG}(h:(aI (rd p.1).2.2).isNil=false):jm rd p=false:=by
 unfold jm;rw[decide_eq_false (eG h)];rfl
def NB{rd:Rd}{p:D aG}(h:¬(rd p.1).2.1=p.2.1):jm rd p=false:=by
 unfold jm;rw[decide_eq_false h,fm]
def NC{rd:Rd}{p:D aG}(h:(aI (rd p.1).2.2).isNil=true)(h2:(rd p.1).2.1=p.2.1):jm rd p=true:=by
 unfold jm;rw[decide_eq_true (aQ.1 h),decide_eq_true h2];rfl
def Tw{rd:Rd}{e:D aC}(h:fP rd e=true)(hb:mN rd e.2.1=0) :
  ((jO (fX e.2.1) (fY e.2.1) (fT rd e.2.1) e.2.2.1).1,(jO (fX e.2.1) (fY e.2.1) (fT rd e.2.1) e.2.2.1).2,())=((kB rd e).1,aI (kB rd e).2,()):=by
 rw[Qd h hb];simp only[ru (H6 _ _ _ _)]
structure gY (x:cG):Prop where
 st:dH x
 Qj:∀y∈x.2.1.1,aP y.1=0/\y.2.1.1.length<=1200/\1<=y.2.1.2.1
def gY.new:gY qz:=⟨.new,fun y hy=>by simp[qz]at hy⟩
def Ij{s:aD}{v:aD×Int×Unit}{c:Int}:∀{es:List FE} {y:FE},y∈eZ cK es s v c->(y.1=s/\y.2.1=v)\/y∈es
 |[],y,h=>by simp[eZ]at h;subst h;exact .inl ⟨rfl,rfl⟩
 |z :: r,y,h=>by
  unfold eZ at h;split at h
  ·rcases ag.1 h with rfl|h
   ·exact .inl ⟨rfl,rfl⟩
   ·exact .inr (by simp[h])
  ·rcases ag.1 h with rfl|h
   ·exact .inr (by simp)
   ·rcases Ij h with h|h
    ·exact .inl h
    ·exact .inr (by simp[h])
def Ik{x:cG}{s t:aD}(h:(cL x s t).2=0):aP s=0/\t.length<=1200/\¬x.1.1=1000000:=by
 unfold cL at h;split at h
 ·rename_i h1;exact absurd h h1
 ·rename_i h1
  split at h
  ·simp at h
  ·rename_i h2
   split at h
   ·simp at h
   ·rename_i h3
    exact⟨by simpa using h1,by omega,fun e=>h3 (.inr e)⟩
def dH.pos{x:cG}(h:dH x):0<=x.1.1:=h.pre.2.1
def gY.write{x:cG}(h:gY x)(s t:aD):gY (cL x s t).1:=by
 refine⟨(h.st.write s t).1,?_⟩;rcases mn x s t with⟨e,_⟩|⟨e,e2⟩
 ·rw[e];exact h.Qj
 ·rw[e]
  intro y hy;obtain⟨k1,k2,_⟩:=Ik e2;rcases Ij hy with⟨h1,h2⟩|hy
  ·rw[h1,h2];exact⟨k1,k2,by have:=h.st.pos;show(1:Int)<=x.1.1+1;omega⟩
  ·exact h.Qj y hy
def gY.remove{x:cG}(h:gY x)(s:aD):gY (fL x s).1:=by
 refine⟨(h.st.remove s).1,?_⟩;cases c:cZ cK x.2.1.1 s with
 |false=>rw[mz c];exact h.Qj
 |true=>rw[lE c];exact fun y hy=>h.Qj y (qb.subset hy)
def gY.ok{x:cG}(h:gY x):iR (aL x):=h.st.ok
def gY.read{x:cG}(h:gY x){s:aD}(hn:(aL x s).2.2=0):aP s=0/\(aL x s).1.length<=1200/\1<=(aL x s).2.1/\(aL x s).2.1<=x.1.1:=by
 refine⟨?_,?_,?_,M7 h.st (aQ.2 hn)⟩
 all_goals
  cases c:cZ cK x.2.1.1 s with
  |false=>rw[lN c]at hn;simp at hn
  |true=>
   obtain⟨r,hr⟩:=h.st.eP;obtain⟨y,hy,e⟩:=l7.1 c;have hy':=h.Qj y hy
   first
    |(rw[pC c,vq hr.names y hy e];first|exact hy'.2.1|exact hy'.2.2)
    |(rw[<-e];exact hy'.1)
def Fc{rd:Rd}(ok:iR rd){root:aD}(h:(aI (eI rd root).2).isNil=true) :
  ∃ns os bs ps,aY rd root=(ns,os,bs,ps,0)/\ki rd root ns os bs ps/\eI rd root=((root,cE rd ns bs ns.length,ps,()),0):=by
 rcases NA ok root with⟨f,hf,_,e⟩|h'
 ·rw[e]at h;exact absurd (aQ.1 h) (by show ¬f=0;omega)
 ·exact h'
def Qk{rd rd':Rd}{ns:List aD}{bs:List Int}(h:∀k∈ns,rd' k=rd k):cE rd' ns bs ns.length=cE rd ns bs ns.length:=by
 refine kj (t:=aG) (by rw[fC,fC]) fun i hi =>?_
 rw[fC]at hi;rw[jx hi,jx hi,h _ (dN (t:=.str) hi)]
def ND{rd rd':Rd}{root:aD}{ns:List aD}{os:List (D aB)}{bs:List Int}{ps:List Pt}(e:aY rd root=(ns,os,bs,ps,0))(hr:ki rd root ns os bs ps)(h:∀k∈ns,rd' k=rd k):eI rd' root=eI rd root:=by
 have hs:bF rd' root=bF rd root:=Kq (by rw[hr.e]) (by rw[hr.e];exact h);have e':aY rd' root=(ns,os,bs,ps,0):=by rw[Ii hs,e]
 rw[yF (by rw[e']),yF (by rw[e]),e',e];simp only;rw[Qk h]
def NF{p:D aG}(h:aP p.1 > 0):eM p=aP p.1:=by unfold eM;rw[if_pos h]
def qQ{p:D aG}(h:aP p.1<=0)(h2:p.2.1<(1:Int)\/p.2.1 > (1000000:Int)\/p.2.2.1<(0:Int)\/p.2.2.1 > (255:Int)\/p.2.2.1 % (16:Int) > 0):eM p=1:=by
 unfold eM;rw[if_neg (by omega),if_pos h2]
def Il{p:D aG}(h:aP p.1<=0)(h1:(1:Int)<=p.2.1)(h2:p.2.1<=(1000000:Int))(h3:(0:Int)<=p.2.2.1)(h4:p.2.2.1<=(255:Int))(h5:p.2.2.1 % (16:Int)=0):eM p=0:=by
 unfold eM;rw[if_neg (by omega),if_neg];rintro(e|e|e|e|e)
 ·exact absurd e (ao.2 h1)
 ·exact absurd e (ao.2 h2)
 ·exact absurd e (ao.2 h3)
 ·exact absurd e (ao.2 h4)
 ·exact absurd (show(0:Int)<0 from h5▸e) (by decide)
def Im{b x:Int}(h:0<=b)(e:x=Int.tmod b 16):x=b % 16:=by rw[e,ez h]
def o4{n:Nat}{p:Pt}(h:p.1<(0:Int)\/p.1>=(n:Int)\/p.2.1<(0:Int)\/p.2.1 > (39:Int)\/p.2.2.1<(-2147483648:Int)\/p.2.2.1 > (2147483647:Int)):eR n p=1:=by
 unfold eR;rw[if_pos];rcases h with h|h|h|h|h|h
 ·exact .inl h
 ·exact .inr (.inl h)
 ·exact .inr (.inr (.inl h))
 ·exact .inr (.inr (.inr (.inl h)))
 ·refine .inr (.inr (.inr (.inr ?_)));unfold im;rw[decide_eq_false (cp.2 h)];rfl
 ·refine .inr (.inr (.inr (.inr ?_)));unfold im;rw[decide_eq_false (cp.2 h),fm]
def CB{n:Nat}{p:Pt}(h1:(0:Int)<=p.1)(h2:p.1<(n:Int))(h3:(0:Int)<=p.2.1)(h4:p.2.1<=(39:Int))(h5:(-2147483648:Int)<=p.2.2.1)(h6:p.2.2.1<=(2147483647:Int)):eR n p=0:=by
 unfold eR;rw[if_neg];rintro(e|e|e|e|e)
 ·exact absurd e (ao.2 h1)
 ·exact absurd h2 (ao.2 e)
 ·exact absurd e (ao.2 h3)
 ·exact absurd e (ao.2 h4)
 ·unfold im at e;rw[decide_eq_true h5,decide_eq_true h6]at e;cases e
def iS{e:D aC}(h1:(1:Int)<=(e.2.1.length:Int))(h2:(e.2.1.length:Int)<=6)(h3:(e.2.2.1.length:Int)<=36):¬rv e:=by
 rintro(k|k|k)
 ·have k:e.2.1.length<1:=k;omega
 ·have k:e.2.1.length > 6:=k;omega
 ·have k:e.2.2.1.length > 36:=k;omega
def nk(p:D aG):aD:=[32]++p.1++[32]++ab p.2.1++[32]++ab p.2.2.1
def nn(p:D aR):aD:=[32]++ab p.1++[32]++ab p.2.1++[32]++ab p.2.2.1
def vD(e:D aC):aD:=e.1++[32]++ab (e.2.1.length:Int)++[32]++ab (e.2.2.1.length:Int)
def jL(e:D aC)(i:Nat):aD:=vD e++(e.2.1.take i).flatMap nk
def jy(e:D aC)(i:Nat):aD:=jL e e.2.1.length++(e.2.2.1.take i).flatMap nn
def ry(e:D aC):aD:=jy e e.2.2.1.length
def fU(e:D aC):aD:=ry e++[10]
def dK(e:D aC):aD×aK:=if bC e≠0 then([],aI (bC e))else(fU e,.nil)
def NG(e:D aC):jL e 0=vD e:=by unfold jL;simp
def NH(e:D aC):jy e 0=jL e e.2.1.length:=by unfold jy;simp
def NI{e:D aC}{i:Nat}(h:i<e.2.1.length):jL e (i+1)=jL e i++nk (nth aG e.2.1 i):=by
 unfold jL;rw[iM (t:=aG) h];simp
def NJ{e:D aC}{i:Nat}(h:i<e.2.2.1.length):jy e (i+1)=jy e i++nn (nth aR e.2.2.1 i):=by
 unfold jy;rw[iM (t:=aR) h];simp
structure lf (e:D aC):Prop where
 nm:Nm e.1
 p1:1<=e.2.1.length
 p6:e.2.1.length<=6
 CC:e.2.2.1.length<=36
 parts:∀i,i<e.2.1.length->Nm (nth aG e.2.1 i).1/\iv 1 1000000 (nth aG e.2.1 i).2.1/\iv 0 255 (nth aG e.2.1 i).2.2.1
 Io:∀i,i<e.2.2.1.length->iv 0 5 (nth aR e.2.2.1 i).1/\iv 0 39 (nth aR e.2.2.1 i).2.1/\iv (-2147483648) 2147483647 (nth aR e.2.2.1 i).2.2.1
def CE{n:Nat}{p:Pt}(h:¬eR n p=0):eR n p=1:=by
 unfold eR at h ⊢;split
 ·rfl
 ·rename_i hh;rw[if_neg hh]at h;exact absurd rfl h
def lH{e:D aC}(h:bC e=0):lf e:=by
 have h0:aP e.1=0:=by
  apply aq;intro hn;have:=fA e.1;rw[zV (by omega)]at h;exact hn h
 have h1:¬rv e:=by
  intro hm;rw[qA (by omega) hm]at h;cases h
 have h2:∀i,(∀j,j<i->j<e.2.1.length->eM (nth aG e.2.1 j)=0)/\(i<e.2.1.length->eM (nth aG e.2.1 i)=0):=by
  intro i;induction i with
  |zero=>
   refine⟨fun j hj=>by omega,fun hi =>?_⟩;apply aq;intro hn;rw[jE (i:=0) (by omega) h1 (fun j hj=>by omega) hi rfl hn]at h;exact hn h
  |succ i ih=>
   have hs:∀j,j<i+1->j<e.2.1.length->eM (nth aG e.2.1 j)=0:=fun j hj hl=>by
    rcases bg j i with hh|hh
    ·exact ih.1 j hh hl
    ·obtain rfl:j=i:=by omega
     exact ih.2 hl
   refine⟨hs,fun hi =>?_⟩;apply aq;intro hn;rw[jE (i:=i+1) (by omega) h1 (fun j hj=>hs j hj (by omega)) hi rfl hn]at h;exact hn h
 have h2':∀i,i<e.2.1.length->eM (nth aG e.2.1 i)=0:=fun i=>(h2 i).2
 have h3:∀i,(∀j,j<i->j<e.2.2.1.length->eR e.2.1.length (nth aR e.2.2.1 j)=0)/\(i<e.2.2.1.length->eR e.2.1.length (nth aR e.2.2.1 i)=0):=by
  intro i;induction i with
  |zero=>
   refine⟨fun j hj=>by omega,fun hi =>?_⟩;apply aq;intro hn;rw[jG (i:=0) (by omega) h1 h2' (fun j hj=>by omega) hi (CE hn)]at h;cases h
  |succ i ih=>
   have hs:∀j,j<i+1->j<e.2.2.1.length->eR e.2.1.length (nth aR e.2.2.1 j)=0:=fun j hj hl=>by
    rcases bg j i with hh|hh
    ·exact ih.1 j hh hl
    ·obtain rfl:j=i:=by omega
     exact ih.2 hl
   refine⟨hs,fun hi =>?_⟩;apply aq;intro hn;rw[jG (i:=i+1) (by omega) h1 h2' (fun j hj=>hs j hj (by omega)) hi (CE hn)]at h;cases h
 have p1:1<=e.2.1.length:=bc.1 fun k=>h1 (.inl k)
 have p6:e.2.1.length<=6:=bc.1 fun k=>h1 (.inr (.inl k))
 refine⟨Cn h0,p1,p6,bc.1 fun k=>h1 (.inr (.inr k)),fun i hi =>?_,fun i hi =>?_⟩
 ·have k:=h2' i hi
  unfold eM at k;split at k
  ·rename_i hn;omega
  ·rename_i hn
   split at k
   ·cases k
   ·rename_i hb
    have:=fA (nth aG e.2.1 i).1;exact⟨Cn (by omega),⟨ao.1 fun k=>hb (.inl k),ao.1 fun k=>hb (.inr (.inl k))⟩,⟨ao.1 fun k=>hb (.inr (.inr (.inl k))),ao.1 fun k=>hb (.inr (.inr (.inr (.inl k))))⟩⟩
 ·have k:=(h3 i).2 hi
  unfold eR at k;split at k
  ·cases k
  ·rename_i hb
   have hw:im (nth aR e.2.2.1 i).2.2.1=true:=by
    apply Bool.not_eq_false _ |>.mp
    intro k;exact hb (.inr (.inr (.inr (.inr k))))
   unfold im at hw;simp only[af,decide_eq_true_eq]at hw;have hl:(nth aR e.2.2.1 i).1<(e.2.1.length:Int):=cp.1 fun k=>hb (.inr (.inl k))
   exact⟨⟨ao.1 fun k=>hb (.inl k),by omega⟩,⟨ao.1 fun k=>hb (.inr (.inr (.inl k))),ao.1 fun k=>hb (.inr (.inr (.inr (.inl k))))⟩,hw⟩
def NK{p:D aG}(h1:Nm p.1)(h2:iv 1 1000000 p.2.1)(h3:iv 0 255 p.2.2.1):(nk p).length<=64:=by
 have a:=h1.2.1;have b:=dJ h2 (by decide) (by decide);have c:=dJ h3 (by decide) (by decide);simp[nk];omega
def NL{p:D aR}(h1:iv 0 5 p.1)(h2:iv 0 39 p.2.1)(h3:iv (-2147483648) 2147483647 p.2.2.1):(nn p).length<=64:=by
 have a:=dJ h1 (by decide) (by decide);have b:=dJ h2 (by decide) (by decide);have c:=dJ h3 (by decide) (by decide);simp[nn];omega
def lf.head{e:D aC}(h:lf e):(vD e).length<=64:=by
 have a:=h.nm.2.1;have b:=dJ (n:=(e.2.1.length:Int)) (a:=0) (b:=6) ⟨by omega,by have:=h.p6;omega⟩ (by decide) (by decide);have c:=dJ (n:=(e.2.2.1.length:Int)) (a:=0) (b:=36) ⟨by omega,by have:=h.CC;omega⟩ (by decide) (by decide);simp[vD];omega
def lf.HV{e:D aC}(h:lf e)(i:Nat):(jL e i).length<=448:=by
 have a:=h.head;have b:=oP (f:=nk) (l:=e.2.1.take i) fun x hx=>by
  obtain⟨j,hj,rfl⟩:=gV (t:=aG) (b8 hx);obtain⟨k1,k2,k3⟩:=h.parts j hj;exact NK k1 k2 k3
 have c:=h.p6;have d:(e.2.1.take i).length<=e.2.1.length:=by simp;omega
 unfold jL;rw[aw];omega
def lf.AU{e:D aC}(h:lf e)(i:Nat):(jy e i).length<=2752:=by
 have a:=h.HV e.2.1.length;have b:=oP (f:=nn) (l:=e.2.2.1.take i) fun x hx=>by
  obtain⟨j,hj,rfl⟩:=gV (t:=aR) (b8 hx);obtain⟨k1,k2,k3⟩:=h.Io j hj;exact NL k1 k2 k3
 have c:=h.CC;have d:(e.2.2.1.take i).length<=e.2.2.1.length:=by simp;omega
 unfold jy;rw[aw];omega
def lf.lens{e:D aC}(h:lf e):e.1.length<=8/\(ab (e.2.1.length:Int)).length<=19/\(ab (e.2.2.1.length:Int)).length<=19:=
 ⟨h.nm.2.1,dJ (a:=0) (b:=6) ⟨by omega,by have:=h.p6;omega⟩ (by decide) (by decide),dJ (a:=0) (b:=36) ⟨by omega,by have:=h.CC;omega⟩ (by decide) (by decide)⟩
def lf.Xu{e:D aC}(h:lf e){i:Nat}(hi:i<e.2.1.length):(nth aG e.2.1 i).1.length<=8/\(ab (nth aG e.2.1 i).2.1).length<=19/\(ab (nth aG e.2.1 i).2.2.1).length<=19/\(jL e i).length<=448:=by
 obtain⟨k1,k2,k3⟩:=h.parts i hi;exact⟨k1.2.1,dJ k2 (by decide) (by decide),dJ k3 (by decide) (by decide),h.HV i⟩
def lf.Xv{e:D aC}(h:lf e){i:Nat}(hi:i<e.2.2.1.length):(ab (nth aR e.2.2.1 i).1).length<=19/\(ab (nth aR e.2.2.1 i).2.1).length<=19/\(ab (nth aR e.2.2.1 i).2.2.1).length<=19/\(jy e i).length<=2752:=by
 obtain⟨k1,k2,k3⟩:=h.Io i hi;exact⟨dJ k1 (by decide) (by decide),dJ k2 (by decide) (by decide),dJ k3 (by decide) (by decide),h.AU i⟩
def NM{e:D aC}{i:Nat}(h:i<e.2.1.length):jL e i++nk (nth aG e.2.1 i)=jL e (i+1):=(NI h).symm
def NN{e:D aC}{i:Nat}(h:i<e.2.2.1.length):jy e i++nn (nth aR e.2.2.1 i)=jy e (i+1):=(NJ h).symm
def NO{e:D aC}(h:bC e≠0):([],aI (bC e))=dK e:=by unfold dK;rw[if_pos h]
def Ql{e:D aC}(h:bC e=0){i:Nat}(hi:i=e.2.2.1.length):(jy e i++[10],aK.nil)=dK e:=by unfold dK;rw[if_neg (not_not_intro h),hi];rfl
def wg(L:List aD):aD:=L.flatMap fun x=>32 :: x
def DG(L M:List aD):wg (L++M)=wg L++wg M:=by simp[wg]
def Ip:∀(a:aD) (L:List aD),nI 32 (a :: L)=a++wg L
 |a,[]=>by simp[nI,wg]
 |a,b :: r=>by rw[nI,Ip b r];simp[wg]
def ux(p:D aG):List aD:=[p.1,ab p.2.1,ab p.2.2.1]
def uy(p:D aR):List aD:=[ab p.1,ab p.2.1,ab p.2.2.1]
def kV(e:D aC):List aD:=e.1 :: ([ab (e.2.1.length:Int),ab (e.2.2.1.length:Int)]++(e.2.1.flatMap ux++e.2.2.1.flatMap uy))
def A8{α:Type}{f:α->List aD}{g:α->aD}(h:∀x,wg (f x)=g x):∀l:List α,wg (l.flatMap f)=l.flatMap g
 |[]=>rfl
 |x :: l=>by rw[bx,DG,h,A8 h l,bx]
def zY(e:D aC):ry e=nI 32 (kV e):=by
 unfold kV;rw[Ip,DG,DG,A8 (g:=nk) (by intro x;simp[ux,nk,wg]),A8 (g:=nn) (by intro x;simp[uy,nn,wg])];unfold ry jy jL vD;simp[wg]
def zZ{e:D aC}(h:lf e):∀y∈kV e,(32:UInt8)∉y/\(10:UInt8)∉y:=by
 intro y hy;unfold kV at hy;rcases ag.1 hy with rfl|hy
 ·exact nK h.nm
 ·rcases au.1 hy with hy|hy
  ·simp at hy
   rcases hy with rfl|rfl <;> exact⟨jN _,ni _⟩
  ·rcases au.1 hy with hy|hy
   ·obtain⟨p,hp,hy⟩:=fo.1 hy
    obtain⟨j,hj,rfl⟩:=gV (t:=aG) hp;simp[ux]at hy;rcases hy with rfl|rfl|rfl
    ·exact nK (h.parts j hj).1
    ·exact⟨jN _,ni _⟩
    ·exact⟨jN _,ni _⟩
   ·obtain⟨p,hp,hy⟩:=fo.1 hy
    simp[uy]at hy;rcases hy with rfl|rfl|rfl <;> exact⟨jN _,ni _⟩
def CF{c:UInt8}(hc:c≠32):∀{L:List aD},(∀y∈L,c∉y)->c∉nI 32 L
 |[],_=>by simp[nI]
 |[x],h=>h x (by simp)
 |x :: y :: r,h=>by
  rw[nI];intro hm;rcases au.1 hm with hm|hm
  ·exact h x (by simp) hm
  ·rcases ag.1 hm with e|hm
   ·exact hc e
   ·exact CF hc (fun z hz=>h z (by simp[hz])) hm
def NP{e:D aC}(h:lf e):(10:UInt8)∉ry e:=by
 rw[zY];exact CF (by decide) fun y hy=>(zZ h y hy).2
def Kt{e:D aC}(h:lf e):parts 32 (ry e)=kV e:=by
 rw[zY];exact tI (by unfold kV;simp) fun y hy=>(zZ h y hy).1
def tM{e:D aC}(h:lf e):parts 32 (ae (fU e) [10])=kV e:=by
 unfold fU;rw[uq,Kt h]
theorem xM{α:Type}{f:α->List aD}(hf:∀x,(f x).length=3):∀l:List α,(l.flatMap f).length=3*l.length
 |[]=>rfl
 |x :: l=>by rw[bx,aw,hf,xM hf l,cj];omega
theorem xN{α:Type}[Inhabited α]{f:α->List aD}(hf:∀x,(f x).length=3):∀(l:List α) (i k:Nat),i<l.length->k<3->nth .str (l.flatMap f) (3*i+k)=nth .str (f (l.getD i default)) k
 |[],i,k,h,_=>by simp at h
 |x :: l,0,k,_,hk=>by
  rw[bx,s9 (t:=.str) (by rw[hf];omega)];simp
 |x :: l,i+1,k,h,hk=>by
  rw[bx,pz,if_neg (by rw[hf];omega),hf,show 3*(i+1)+k-3=3*i+k by omega,xN hf l i k (by simpa using h) hk];simp
structure mq (w:List aD) (e:D aC):Prop where
 len:w.length=3+3*(e.2.1.length+e.2.2.1.length)
 root:nth .str w 0=e.1
 a:nth .str w 1=ab (e.2.1.length:Int)
 b:nth .str w 2=ab (e.2.2.1.length:Int)
 p0:∀i,i<e.2.1.length->nth .str w (3+3*i)=(nth aG e.2.1 i).1
 p1:∀i,i<e.2.1.length->nth .str w (4+3*i)=ab (nth aG e.2.1 i).2.1
 p2:∀i,i<e.2.1.length->nth .str w (5+3*i)=ab (nth aG e.2.1 i).2.2.1
 q0:∀i,i<e.2.2.1.length->nth .str w (3+3*(e.2.1.length+i))=ab (nth aR e.2.2.1 i).1
 q1:∀i,i<e.2.2.1.length->nth .str w (4+3*(e.2.1.length+i))=ab (nth aR e.2.2.1 i).2.1
 q2:∀i,i<e.2.2.1.length->nth .str w (5+3*(e.2.1.length+i))=ab (nth aR e.2.2.1 i).2.2.1
def z1{t:Ty}{l:List (D t)}{i:Nat}(d:D t)(h:i<l.length):nth t l i=l.getD i d:=by
 unfold nth;rw[List.getD_eq_getElem?_getD,List.getD_eq_getElem?_getD,List.getElem?_eq_getElem h];rfl
def Iq(e:D aC):mq (kV e) e:=by
 have hs:∀x,(ux x).length=3:=fun _=>rfl
 have hp:∀x,(uy x).length=3:=fun _=>rfl
 have ls:=xM hs e.2.1;have lp:=xM hp e.2.2.1;have at3:∀k,nth .str (kV e) (3+k)=nth .str (e.2.1.flatMap ux++e.2.2.1.flatMap uy) k:=fun k=>by
  rw[show 3+k=k+1+1+1 by omega];rfl
 letI:Inhabited (D aG):=⟨bY aG⟩
 letI:Inhabited (D aR):=⟨bY aR⟩
 have hP:∀i k,i<e.2.1.length->k<3->nth .str (kV e) (3+(3*i+k))=nth .str (ux (nth aG e.2.1 i)) k:=fun i k hi hk=>by
  rw[at3,s9 (t:=.str) (by omega),xN hs _ i k hi hk,z1 default hi]
 have hQ:∀i k,i<e.2.2.1.length->k<3->nth .str (kV e) (3+(3*(e.2.1.length+i)+k))=nth .str (uy (nth aR e.2.2.1 i)) k:=fun i k hi hk=>by
  rw[at3,pz,if_neg (by omega),ls,show 3*(e.2.1.length+i)+k-3*e.2.1.length=3*i+k by omega,xN hp _ i k hi hk,z1 default hi]
 refine⟨?_,rfl,rfl,rfl,fun i hi =>?_,fun i hi =>?_,fun i hi =>?_,fun i hi =>?_,fun i hi =>?_,fun i hi =>?_⟩
 ·unfold kV;simp only[cj,aw,fl,ls,lp];omega
 ·exact hP i 0 hi (by omega)
 ·rw[show 4+3*i=3+(3*i+1) by omega];exact hP i 1 hi (by omega)
 ·rw[show 5+3*i=3+(3*i+2) by omega];exact hP i 2 hi (by omega)
 ·exact hQ i 0 hi (by omega)
 ·rw[show 4+3*(e.2.1.length+i)=3+(3*(e.2.1.length+i)+1) by omega];exact hQ i 1 hi (by omega)
 ·rw[show 5+3*(e.2.1.length+i)=3+(3*(e.2.1.length+i)+2) by omega];exact hQ i 2 hi (by omega)
def partAt(A:aD->Int)(w:List aD)(i:Nat):D aG:=(nth .str w (3+3*i),A (nth .str w (4+3*i)),A (nth .str w (5+3*i)),())
def uz(A:aD->Int)(w:List aD)(i:Nat):D aR:=(A (nth .str w (3+3*i)),A (nth .str w (4+3*i)),A (nth .str w (5+3*i)),())
def eC(A:aD->Int)(w:List aD)(n:Nat):List (D aG):=(ba n).map (partAt A w)
def cU(A:aD->Int)(w:List aD)(a n:Nat):List (D aR):=(ba n).map fun i=>uz A w (a+i)
def z6(A:aD->Int)(w:List aD)(n:Nat):(eC A w n).length=n:=by simp[eC]
def wh(A:aD->Int)(w:List aD)(a n:Nat):(cU A w a n).length=n:=by simp[cU]
def Ku{A:aD->Int}{w:List aD}{n i:Nat}(h:i<n):nth aG (eC A w n) i=partAt A w i:=by
 unfold nth eC;rw[List.getD_eq_getElem?_getD,List.getElem?_map,List.getElem?_range h];rfl
def Gl{A:aD->Int}{w:List aD}{a n i:Nat}(h:i<n):nth aR (cU A w a n) i=uz A w (a+i):=by
 unfold nth cU;rw[List.getD_eq_getElem?_getD,List.getElem?_map,List.getElem?_range h];rfl
def Ir(A:aD->Int)(w:List aD)(n:Nat):eC A w (n+1)=eC A w n++[partAt A w n]:=by simp[eC,cq]
def DH(A:aD->Int)(w:List aD)(a n:Nat):cU A w a (n+1)=cU A w a n++[uz A w (a+n)]:=by simp[cU,cq]
def UW(A:aD->Int):Prop:=∀n:Int,iv (-2147483648) 2147483647 n->A (ab n)=n
def ic{a b n:Int}(h:iv a b n)(ha : -2147483648<=a)(hb:b<=2147483647):iv (-2147483648) 2147483647 n:=⟨b7 ha h.1,b7 h.2 hb⟩
def lf.na{e:D aC}(h:lf e):iv 0 6 (e.2.1.length:Int):=⟨by omega,by have:=h.p6;omega⟩
def lf.nb{e:D aC}(h:lf e):iv 0 36 (e.2.2.1.length:Int):=⟨by omega,by have:=h.CC;omega⟩
def mq.eq{A:aD->Int}(hA:UW A){w:List aD}{e:D aC}(r:mq w e)(h:lf e):e=(nth .str w 0,eC A w e.2.1.length,cU A w e.2.1.length e.2.2.1.length,()):=by
 obtain⟨s,p,q,_⟩:=e;have e1:p=eC A w p.length:=kj (t:=aG) (by rw[z6]) fun i hi=>by
  rw[Ku hi];obtain⟨k1,k2,k3⟩:=h.parts i hi;unfold partAt;rw[r.p0 i hi,r.p1 i hi,r.p2 i hi,hA _ (ic k2 (by decide) (by decide)),hA _ (ic k3 (by decide) (by decide))]
 have e2:q=cU A w p.length q.length:=kj (t:=aR) (by rw[wh]) fun i hi=>by
  rw[Gl hi];obtain⟨k1,k2,k3⟩:=h.Io i hi;unfold uz;rw[r.q0 i hi,r.q1 i hi,r.q2 i hi,hA _ (ic k1 (by decide) (by decide)),hA _ (ic k2 (by decide) (by decide)),hA _ k3]
 have e0:nth .str w 0=s:=r.root;rw[e0];exact congrArg (fun z=>(s,z)) (show(p,q,())=(eC A w p.length,cU A w p.length q.length,()) by rw[<-e1,<-e2])
def dE(s:aD):Int:=(eD s).1
def iT:UW dE:=fun n h=>by
 have:=rI h (by decide) (by decide);exact nj this
def Qm{e e':D aC}(h:bC e=0)(h':bC e'=0)(ht:fU e=fU e'):e=e':=by
 have k:=lH h;have k':=lH h';have hw:kV e=kV e':=by rw[<-tM k,<-tM k',ht]
 have r:=Iq e;have r':=Iq e';rw[hw]at r;have ha:(e.2.1.length:Int)=(e'.2.1.length:Int):=by
  rw[<-iT _ (ic k.na (by decide) (by decide)),<-iT _ (ic k'.na (by decide) (by decide)),<-r.a,<-r'.a]
 have hb:(e.2.2.1.length:Int)=(e'.2.2.1.length:Int):=by
  rw[<-iT _ (ic k.nb (by decide) (by decide)),<-iT _ (ic k'.nb (by decide) (by decide)),<-r.b,<-r'.b]
 refine(r.eq iT k).trans (Eq.trans ?_ (r'.eq iT k').symm);rw[dd.1 ha,dd.1 hb]
open Classical in
def oS(s:aD):D aC×Int:=if h:∃e:D aC,bC e=0/\fU e=s then(b9 h,0)else(bY aC,4)
def LI{s:aD}{e:D aC}(hf:bC e=0)(ht:fU e=s):oS s=(e,0):=by
 have hx:∃e:D aC,bC e=0/\fU e=s:=⟨e,hf,ht⟩
 have hc:=cz hx;unfold oS;rw[dif_pos hx,Qm hc.1 hf (hc.2.trans ht.symm)]
def Tx{s:aD}(hn:∀e:D aC,bC e=0->fU e=s->False):oS s=(bY aC,4):=by
 unfold oS;rw[dif_neg fun⟨e,h1,h2⟩=>hn e h1 h2]
def hZ(s:aD):D aC×aK:=((oS s).1,aI (oS s).2)
def pK{s:aD}(hn:∀e:D aC,bC e=0->fU e=s->False):(bY aC,aK.no 4)=hZ s:=by unfold hZ;rw[Tx hn];rfl
def Qn{s:aD}{e:D aC}(h:(dK e).2.isNil=true)(ht:(dK e).1=s):(e,aK.nil)=hZ s:=by
 have hf:bC e=0:=by
  apply aq;intro hf;unfold dK at h;rw[if_pos hf]at h;exact hf (aQ.1 h)
 unfold dK at ht;rw[if_neg (not_not_intro hf)]at ht;unfold hZ;rw[LI hf ht];rfl
def ma(l:List aD):List Int:=l.map dE
def vE(l:List aD):Bool:=l.all fun s=>(cT s).isSome
def bS(l:List aD):List Int×Bool:=if vE l=true then(ma l,true)else([],false)
def Tz{l:List aD}{i:Nat}(hi:i<l.length)(h:cT (nth .str l i)=none):vE l=false:=by
 unfold vE;rw[c6];exact⟨nth .str l i,dN (t:=.str) hi,by rw[h];decide⟩
def z7{l:List aD}{i:Nat}(hi:i<l.length)(h:(cT (nth .str l i)).isNone=true):([],false)=bS l:=by
 unfold bS;rw[Tz hi (Option.isNone_iff_eq_none.1 h)];rfl
def vF{l:List aD}(h:∀j,j<l.length->(cT (nth .str l j)).isNone=false):vE l=true:=by
 unfold vE;rw[ca];intro s hs;obtain⟨j,hj,rfl⟩:=gV (t:=.str) hs;have:=h j hj;cases hh:cT (nth .str l j)with
 |none=>rw[hh]at this;cases this
 |some n=>rfl
def NQ{l:List aD}{i:Nat}(hi:¬i<l.length)(h:∀j,j<i->j<l.length->(cT (nth .str l j)).isNone=false):(ma (l.take i),true)=bS l:=by
 unfold bS;rw[vF fun j hj=>h j (by omega) hj,if_pos rfl,cg (by omega)]
def CG{l:List aD}{i:Nat}(h:i<l.length):ma (l.take (i+1))=ma (l.take i)++[(eD (nth .str l i)).1]:=by
 rw[iM (t:=.str) h];simp[ma,dE]
def np{l:List aD}:(bS l).2=vE l:=by
 unfold bS;split
 ·rename_i h;rw[h]
 ·rename_i h;rw[fh _ |>.mp h]
def z8{l:List aD}(h:(bS l).2=true){i:Nat}(hi:i<l.length):nth (.int .i64) (bS l).1 i=dE (nth .str l i)/\(cT (nth .str l i)).isNone=false:=by
 have hk:=h;rw[np]at hk;constructor
 ·unfold bS;rw[if_pos hk]
  unfold nth ma;rw[List.getD_eq_getElem?_getD,List.getD_eq_getElem?_getD,List.getElem?_map,List.getElem?_eq_getElem hi];rfl
 ·unfold vE at hk
  rw[ca]at hk;have:=hk _ (dN (t:=.str) hi);cases hh:cT (nth .str l i)with
  |none=>rw[hh]at this;cases this
  |some n=>rfl
def Kv{l:List aD}(h:(bS l).2=true):(bS l).1.length=l.length:=by
 rw[np]at h;unfold bS;rw[if_pos h];simp[ma]
structure qe (w:List aD):Prop where
 ka:(cT (nth .str w 1)).isNone=false
 kb:(cT (nth .str w 2)).isNone=false
 a0:(0:Int)<=dE (nth .str w 1)
 a6:dE (nth .str w 1)<=(6:Int)
 b0:(0:Int)<=dE (nth .str w 2)
 fM:dE (nth .str w 2)<=(36:Int)
 len:(w.length:Int)=3+3*(dE (nth .str w 1)+dE (nth .str w 2))
def CH{t:Ty}{l:List (D t)}{i j k:Nat}(h:i+k<j):nth t (ai i (ah j l)) k=nth t l (i+k):=by
 unfold nth;rw[List.getD_eq_getElem?_getD,List.getD_eq_getElem?_getD,List.getElem?_drop,List.getElem?_take,if_pos h]
def Is{α:Type}{l:List α}{i j:Nat}(h:j<=l.length):(ai i (ah j l)).length=j-i:=by simp;omega
def Qo(s:aD)(c:UInt8)(h:s.length<=100000):(parts c (ae s [10])).length<=100001:=by
 have a:=sY c (ae s [10]);have b:=yE s [10];omega
def qR{l:List aD}{n:Nat}(h:∀y∈l,y.length<=n)(i:Nat):(nth .str l i).length<=n:=by
 by_cases hi:i<l.length
 ·exact h _ (dN (t:=.str) hi)
 ·unfold nth;rw[List.getD_eq_getElem?_getD,List.getElem?_eq_none (by omega)];exact ar _
def tN{s:aD}{c:UInt8}(h:s.length<=100000):∀y∈parts c (ae s [10]),y.length<=1000000:=fun y hy=>by
 have a:=oO c _ y hy;have b:=yE s [10];omega
def It{l:List aD}{n:Nat}(h:∀y∈l,y.length<=n)(i j:Nat):∀y∈ai i (ah j l),y.length<=n:=fun y hy=>h y (b8 (List.mem_of_mem_drop hy))
def VF{s:aD}{c:UInt8}(h:s.length<=100000)(i j:Nat):(ai i (ah j (parts c (ae s [10])))).length<=1000000/\∀k,(nth .str (ai i (ah j (parts c (ae s [10])))) k).length<=1000000:=
 ⟨by have:=Qo s c h;simp;omega,qR (It (tN h) i j)⟩
def VG{w:List aD}(h:3<=w.length)(hk:(bS (ai 1 (ah 3 w))).2=true) :
  (bS (ai 1 (ah 3 w))).1=[dE (nth .str w 1),dE (nth .str w 2)]/\(cT (nth .str w 1)).isNone=false/\(cT (nth .str w 2)).isNone=false:=by
 have hl:(ai 1 (ah 3 w)).length=2:=Is h;obtain⟨a1,a2⟩:=z8 hk (i:=0) (by omega);obtain⟨b1,b2⟩:=z8 hk (i:=1) (by omega);have hn:=Kv hk;rw[CH (t:=.str) (by omega)]at a1 a2 b1 b2;refine⟨kj (t:=.int .i64) (by rw[hn,hl];rfl) fun i hi =>?_,a2,b2⟩;rw[hn,hl]at hi;rcases(show i=0\/i=1 by omega)with rfl|rfl
 ·rw[a1];rfl
 ·rw[b1];rfl
def Ky{w:List aD}(h:3<=w.length)(hk:(bS (ai 1 (ah 3 w))).2=false):¬qe w:=by
 intro hd;have hl:(ai 1 (ah 3 w)).length=2:=Is h;rw[np,vF fun j hj =>?_]at hk
 ·cases hk
 ·rw[hl]at hj
  rcases(show j=0\/j=1 by omega)with rfl|rfl
  ·rw[CH (t:=.str) (by omega)];exact hd.ka
  ·rw[CH (t:=.str) (by omega)];exact hd.kb
def Iu{w:List aD}(h:¬qe w):(true=false↔qe w):=⟨fun e=>Bool.noConfusion e,fun e=>absurd e h⟩
def WY{w:List aD}(ka:(cT (nth .str w 1)).isNone=false)(kb:(cT (nth .str w 2)).isNone=false){a b x:Int}(ha:a=dE (nth .str w 1))(hb:b=dE (nth .str w 2))
  (a0:0<=a)(a6:a<=6)(b0:0<=b)(fM:b<=36)(hx:x=3*(a+b)):(((w.length:Int) != 3+x)=false↔qe w):=by
 subst ha;subst hb;subst hx;constructor
 ·intro h;exact⟨ka,kb,a0,a6,b0,fM,by simpa using h⟩
 ·intro h;simpa using h.len
def qf{s:aD}{e:D aC}(hf:bC e=0)(ht:fU e=s):mq (parts 32 (ae s [10])) e/\lf e:=by
 have k:=lH hf;rw[<-ht,tM k];exact⟨Iq e,k⟩
def mq.na{A:aD->Int}(hA:UW A){w:List aD}{e:D aC}(r:mq w e)(k:lf e):A (nth .str w 1)=(e.2.1.length:Int):=by rw[r.a,hA _ (ic k.na (by decide) (by decide))]
def mq.nb{A:aD->Int}(hA:UW A){w:List aD}{e:D aC}(r:mq w e)(k:lf e):A (nth .str w 2)=(e.2.2.1.length:Int):=by rw[r.b,hA _ (ic k.nb (by decide) (by decide))]
def nq{n:Int}(h:iv (-2147483648) 2147483647 n):(cT (ab n)).isNone=false:=by rw[rI h (by decide) (by decide)];rfl
def mq.hd{w:List aD}{e:D aC}(r:mq w e)(k:lf e):qe w:=by
 have a:=r.na iT k;have b:=r.nb iT k;have c:=k.p6;have d:=k.CC;have l:=r.len;refine⟨by rw[r.a];exact nq (ic k.na (by decide) (by decide)),by rw[r.b];exact nq (ic k.nb (by decide) (by decide)),?_,?_,?_,?_,?_⟩ <;> (try rw[a]) <;> (try rw[b]) <;> omega
section
variable{s:aD}
def Iv(h:(parts 32 (ae s [10])).length<3):(bY aC,aK.no 4)=hZ s:=pK fun e hf ht=>by
 have:=(qf hf ht).1.len;omega
def Kz(h:¬qe (parts 32 (ae s [10]))):(bY aC,aK.no 4)=hZ s:=pK fun e hf ht=>h ((qf hf ht).1.hd (qf hf ht).2)
def TA{w:List aD}{e:D aC}(r:mq w e)(k:lf e){i:Nat}(hi:i<e.2.1.length):(cT (nth .str w (4+3*i))).isNone=false/\(cT (nth .str w (5+3*i))).isNone=false:=by
 obtain⟨_,k2,k3⟩:=k.parts i hi;rw[r.p1 i hi,r.p2 i hi];exact⟨nq (ic k2 (by decide) (by decide)),nq (ic k3 (by decide) (by decide))⟩
def Qp{w:List aD}{e:D aC}(r:mq w e)(k:lf e){i:Nat}(hi:e.2.1.length<=i)(hi2:i<e.2.1.length+e.2.2.1.length) :
  (cT (nth .str w (3+3*i))).isNone=false/\(cT (nth .str w (4+3*i))).isNone=false/\(cT (nth .str w (5+3*i))).isNone=false:=by
 obtain⟨j,rfl⟩:∃j,i=e.2.1.length+j:=⟨i-e.2.1.length,by omega⟩
 obtain⟨k1,k2,k3⟩:=k.Io j (by omega);rw[r.q0 j (by omega),r.q1 j (by omega),r.q2 j (by omega)];exact⟨nq (ic k1 (by decide) (by decide)),nq (ic k2 (by decide) (by decide)),nq k3⟩
structure lk (w x:List aD) (i:Nat):Prop where
 len:x.length=3
 a:nth .str x 0=nth .str w (3+3*i)
 b:nth .str x 1=nth .str w (4+3*i)
 c:nth .str x 2=nth .str w (5+3*i)
def Qq{w:List aD}{i:Nat}{p q:Int}(hp:p=3*(i:Int))(hq:q=3*(i:Int))(h:3+3*(i+1)<=w.length):lk w (ai (cc (3+p)) (ah (cc (6+q)) w)) i:=by
 subst hp;subst hq;rw[show cc (3+3*(i:Int))=3+3*i by omega,show cc (6+3*(i:Int))=6+3*i by omega];refine⟨by rw[Is (by omega)];omega,?_,?_,?_⟩ <;> rw[CH (t:=.str) (by omega)] <;> congr 1 <;> omega
def Aa{n:Nat}{w x:List aD}{i:Nat}(h:lk w x i)(hw:∀y∈w,y.length<=n)(k:Nat):(nth .str x k).length<=n:=by
 rcases bg k 3 with hk|hk
 ·rcases(show k=0\/k=1\/k=2 by omega)with rfl|rfl|rfl
  ·rw[h.a];exact qR hw _
  ·rw[h.b];exact qR hw _
  ·rw[h.c];exact qR hw _
 ·unfold nth;rw[List.getD_eq_getElem?_getD,List.getElem?_eq_none (by rw[h.len];omega)];exact ar _
def CI{w x:List aD}{i:Nat}(h:lk w x i):ai 1 (ah (bj x) x)=[nth .str w (4+3*i),nth .str w (5+3*i)]:=by
 match x,h with
 |[p,q,r],h=>rw[<-h.b,<-h.c];rfl
def Iw{w x:List aD}{i:Nat}(h:lk w x i):x=[nth .str w (3+3*i),nth .str w (4+3*i),nth .str w (5+3*i)]:=by
 match x,h with
 |[p,q,r],h=>rw[<-h.a,<-h.b,<-h.c];rfl
def Fe{w x:List aD}{i:Nat}(h:lk w x i)(hk:(bS (ai 1 (ah (bj x) x))).2=true) :
  (bS (ai 1 (ah (bj x) x))).1=[dE (nth .str w (4+3*i)),dE (nth .str w (5+3*i))]:=by
 rw[np]at hk;unfold bS;rw[if_pos hk,CI h];rfl
def Ix{w x:List aD}{i:Nat}(h:lk w x i)(hk:(bS x).2=true):(bS x).1=[dE (nth .str w (3+3*i)),dE (nth .str w (4+3*i)),dE (nth .str w (5+3*i))]:=by
 rw[np]at hk;unfold bS;rw[if_pos hk];conv=>lhs;rw[Iw h]
 rfl
def KA{x:List aD}{i:Nat}(h:lk (parts 32 (ae s [10])) x i)(hi:(i:Int)<dE (nth .str (parts 32 (ae s [10])) 1))(hk:(bS (ai 1 (ah (bj x) x))).2=false):(bY aC,aK.no 4)=hZ s:=
 pK fun e hf ht=>by
  obtain⟨r,k⟩:=qf hf ht;rw[r.na iT k]at hi;obtain⟨a,b⟩:=TA r k (i:=i) (by omega);rw[np,CI h,vF fun j hj =>?_]at hk
  ·cases hk
  ·rcases(show j=0\/j=1 by simp at hj;omega)with rfl|rfl
   ·exact a
   ·exact b
def Iy{x:List aD}{i:Nat}(h:lk (parts 32 (ae s [10])) x i)(hi:dE (nth .str (parts 32 (ae s [10])) 1)<=(i:Int))(hi2:(i:Int)<dE (nth .str (parts 32 (ae s [10])) 1)+dE (nth .str (parts 32 (ae s [10])) 2))(hk:(bS x).2=false):(bY aC,aK.no 4)=hZ s:=
 pK fun e hf ht=>by
  obtain⟨r,k⟩:=qf hf ht;rw[r.na iT k]at hi hi2;rw[r.nb iT k]at hi2;obtain⟨a,b,c⟩:=Qp r k (i:=i) (by omega) (by omega);rw[Iw h]at hk;rw[np,vF fun j hj =>?_]at hk
  ·cases hk
  ·rcases(show j=0\/j=1\/j=2 by simp at hj;omega)with rfl|rfl|rfl
   ·exact a
   ·exact b
   ·exact c
def GD(A:aD->Int)(w:List aD)(a b:Nat):D aC:=(nth .str w 0,eC A w a,cU A w a b,())
def Ab{a b:Nat}(ha:dE (nth .str (parts 32 (ae s [10])) 1)=(a:Int))(hb:dE (nth .str (parts 32 (ae s [10])) 2)=(b:Int))
  (h:(dK (GD dE (parts 32 (ae s [10])) a b)).2.isNil=false\/¬(dK (GD dE (parts 32 (ae s [10])) a b)).1=s):(bY aC,aK.no 4)=hZ s:=
 pK fun e hf ht=>by
  obtain⟨r,k⟩:=qf hf ht;rw[r.na iT k]at ha;rw[r.nb iT k]at hb;have he:GD dE (parts 32 (ae s [10])) a b=e:=by
   rw[<-dd.1 ha,<-dd.1 hb];exact(r.eq iT k).symm
  rw[he]at h;unfold dK at h;rw[if_neg (not_not_intro hf)]at h;rcases h with h|h
  ·cases h
  ·exact h ht
end
def rk(w:List aD)(y:List Int×Bool):Prop:=(y.2=true->y.1=[dE (nth .str w 1),dE (nth .str w 2)]/\(cT (nth .str w 1)).isNone=false/\(cT (nth .str w 2)).isNone=false)/\(y.2=false->¬qe w)
def VH{w:List aD}(h:3<=w.length):rk w (bS (ai 1 (ah 3 w))):=⟨fun hk=>VG h hk,fun hk=>Ky h hk⟩
def rk.ok{w:List aD}{y:List Int×Bool}(h:rk w y)(hd:qe w):y.2=true:=by
 cases hy:y.2 with
 |true=>rfl
 |false=>exact absurd hd (h.2 hy)
def rk.get{w:List aD}{y:List Int×Bool}(h:rk w y)(hd:qe w):y.1=[dE (nth .str w 1),dE (nth .str w 2)]:=(h.1 (h.ok hd)).1
def rk.l0{w:List aD}{y:List Int×Bool}(h:rk w y)(hy:y.2=true):@Eq Int (nth (.int .i64) y.1 0) (dE (nth .str w 1)):=by rw[(h.1 hy).1];rfl
def rk.l1{w:List aD}{y:List Int×Bool}(h:rk w y)(hy:y.2=true):@Eq Int (nth (.int .i64) y.1 1) (dE (nth .str w 2)):=by rw[(h.1 hy).1];rfl
def rk.k0{w:List aD}{y:List Int×Bool}(h:rk w y)(hd:qe w):@Eq Int (nth (.int .i64) y.1 0) (dE (nth .str w 1)):=h.l0 (h.ok hd)
def rk.k1{w:List aD}{y:List Int×Bool}(h:rk w y)(hd:qe w):@Eq Int (nth (.int .i64) y.1 1) (dE (nth .str w 2)):=h.l1 (h.ok hd)
def Qr{w x:List aD}{i:Nat}(h:lk w x i)(hw:∀y∈w,y.length<=1000000):x.length<=1000000/\∀k,(nth .str x k).length<=1000000:=⟨by rw[h.len];decide,Aa h hw⟩
def Qs{w x:List aD}{i:Nat}(h:lk w x i){n:Nat}(hw:∀y∈w,y.length<=n):∀y∈x,y.length<=n:=fun y hy=>by
 obtain⟨k,hk,rfl⟩:=gV (t:=.str) hy;exact Aa h hw k
def NR{w x:List aD}{i:Nat}(h:lk w x i)(hw:∀y∈w,y.length<=1000000):(ai 1 (ah (bj x) x)).length<=1000000/\∀k,(nth .str (ai 1 (ah (bj x) x)) k).length<=1000000:=
 ⟨by have:=h.len;simp;omega,qR (It (Qs h hw) _ _)⟩
def Qt(A:aD->Int)(w:List aD)(k:Nat):([]:List (D aG))=eC A w (a8 0 k):=by rw[show a8 0 k=0 from Nat.zero_min k];rfl
def UX(A:aD->Int)(w:List aD)(k:Nat):([]:List (D aR))=cU A w k (0-k):=by rw[Nat.zero_sub];rfl
def Qu{i k:Nat}(h:i<k):a8 i k=i/\a8 (i+1) k=i+1:=⟨c7 (by omega),c7 h⟩
def Iz{i k:Nat}(h:k<=i):a8 i k=k/\a8 (i+1) k=k:=⟨fp h,fp (by omega)⟩
def Ff{w x:List aD}{i k:Nat}(h:lk w x i)(hk:(bS (ai 1 (ah (bj x) x))).2=true)(hi:i<k) :
  eC dE w (a8 i k)++[(nth .str x 0,nth (.int .i64) (bS (ai 1 (ah (bj x) x))).1 0,nth (.int .i64) (bS (ai 1 (ah (bj x) x))).1 1,())]=eC dE w (a8 (i+1) k):=by
 rw[(Qu hi).1,(Qu hi).2,Ir,Fe h hk,h.a];rfl
def Fg{A:aD->Int}{w:List aD}{i k:Nat}(hi:i<k):cU A w k (i-k)=cU A w k (i+1-k):=by congr 1;omega
def CJ{A:aD->Int}{w:List aD}{i k:Nat}(hi:k<=i):eC A w (a8 i k)=eC A w (a8 (i+1) k):=by rw[(Iz hi).1,(Iz hi).2]
def IA{w x:List aD}{i k:Nat}(h:lk w x i)(hk:(bS x).2=true)(hi:k<=i) :
  cU dE w k (i-k)++[(nth (.int .i64) (bS x).1 0,nth (.int .i64) (bS x).1 1,nth (.int .i64) (bS x).1 2,())]=cU dE w k (i+1-k):=by
 rw[show i+1-k=(i-k)+1 by omega,DH,Ix h hk];unfold uz;rw[show k+(i-k)=i by omega];rfl
def IB{A:aD->Int}{w:List aD}{i a b:Nat}(h:i=a+b):(((nth .str w 0,eC A w (a8 i a),cU A w a (i-a),())):D aC)=GD A w a b:=by
 rw[(Iz (i:=i) (k:=a) (by omega)).1,show i-a=b by omega];rfl
def NS{A:aD->Int}{w:List aD}{n:Nat}{x:D aG}(h:n<=100):(eC A w n).length+ [x].length<=1000000000:=by rw[z6,da];omega
def Qv{A:aD->Int}{w:List aD}{k n:Nat}{x:D aR}(h:n<=100):(cU A w k n).length+ [x].length<=1000000000:=by rw[wh,da];omega
def KB{A:aD->Int}{w:List aD}{i k:Nat}{x:D aG}(h:k<=100):(eC A w (a8 i k)).length+ [x].length<=1000000000:=NS (b5 (Nat.min_le_right i k) h)
def vG{e:D aC}(h:(dK e).2.isNil=true):bC e=0/\(dK e).1=fU e:=by
 have hf:bC e=0:=by
  apply aq;intro hf;unfold dK at h;rw[if_pos hf]at h;exact hf (aQ.1 h)
 exact⟨hf,by unfold dK;rw[if_neg (not_not_intro hf)]⟩
def NT{e:D aC}(h:(dK e).2.isNil=true):(dK e).1.length<=2753:=by
 obtain⟨hf,ht⟩:=vG h;rw[ht];unfold fU;have:=(lH hf).AU e.2.2.1.length;rw[aw];unfold ry;simp;omega
section
variable{s:aD}
end
def IC(e:D aC):(dK e).2=aI (bC e):=by
 unfold dK;split
 ·rfl
 ·next h=>rw[Classical.not_not.1 h];rfl
end Go.Mrl

namespace Go.Vg
open Go.RowKit
def mO(F:Fence):Prop:=F=bd\/∃l,F=bd.inRound l
def mr(ds:List Deferred)(a:Act):Act:={a with defers:=ds}
def rL(ds:List Deferred)(a:Act)(d:Option Tmp)(v:Value):(mr ds a).put d v=mr ds (a.put d v):=by cases d <;> rfl
def ID(ds:List Deferred)(a:Act):(mr ds a).eval=a.eval:=by funext x;cases x <;> rfl
def IE(ds:List Deferred)(a:Act):(mr ds a).tmps=a.tmps:=rfl
def put_defers(a:Act)(d:Option Tmp)(v:Value):(a.put d v).defers=a.defers:=by cases d <;> rfl
section
variable{P:Program}{F:Fence}{n:Nat}
def mO.fn(h:mO F)(f:FuncId):F.fn f:=by rcases h with rfl|⟨l,rfl⟩ <;> trivial
def mO.deep(h:mO F):¬F.depth.isSome=true:=by rcases h with rfl|⟨l,rfl⟩ <;> simp[bd,Fence.inRound]
def mO.calls(h:mO F){f:FuncId}{args:Array Value}{w:World}{R:Ending->World->Prop}(hc:Calls P f args w R):CallsIn F n P f args w R:=by
 rcases h with rfl|⟨l,rfl⟩
 ·exact callsIn_wide.2 hc
 ·exact CallsIn.inRound l (callsIn_wide.2 hc)
def mO.rows(h:mO F){row:String}{args:Array Value}{w:World}{R:Value->World->Prop}(hc:Rows P row args w R):RowsIn F n P row args w R:=by
 have hs:∀{m m':Machine},Steps P m m'->StepsIn (Machine.fenced P F) P m m':=by
  rcases h with rfl|⟨l,rfl⟩
  ·exact stepsIn_wide.2
  ·exact fun hh=>stepsIn_wide.2 hh
 intro c cs _;obtain⟨v,w',r,s⟩:=hc c cs;exact⟨v,w',r,hs s⟩
structure vH (Q:Exit->Act->World->Prop):Prop where
 bare:∀e a w,Q e a w->a.defers=[]
 Qw:∀c a w,¬Q (.panic c) a w
 out:¬LetsOut Q
variable{Q Q':Exit->Act->World->Prop}
def DI(hQ:vH Q){o:Oper}{K:Act->World->Prop}(hK:∀a w,K a w->a.defers=[]){a:Act}{w:World}(h:o.wp P a w K Q):a.defers=[]:=by
 unfold Oper.wp at h;generalize (execOp a.eval o).run P w=r at h;cases r with
 |ok x w'=>
  cases x with
  |value v=>have:=hK _ _ h;rwa [put_defers]at this
  |skip=>have:=hK _ _ h;rwa [put_defers]at this
  |defer d=>have:=hK _ _ h;rw[put_defers]at this;cases this
  |enter f args=>
   obtain⟨e,w2,fr,hr,_⟩:=h [];cases e with
   |returned v=>have:=hK _ _ hr;rwa [put_defers]at this
   |panicked c=>exact absurd hr (hQ.Qw _ _ _)
   |outgrown=>exact absurd hr hQ.out
  |row row args=>
   obtain⟨v,w2,hr,_⟩:=h default [];have:=hK _ _ hr;rwa [put_defers]at this
  |_=>exact h.elim
 |halt x w'=>
  cases x with
  |panic v=>exact absurd h (hQ.Qw _ _ _)
  |_=>exact h.elim
def nM(o:Oper):Bool:=match o.op with
 |.defer _=>false
 |_=>true
def NU{o:Oper}(h:nM o=true):∀c,o.op≠.defer c:=by
 intro c e;unfold nM at h;rw[e]at h;cases h
def UY(hF:mO F)(hQ:vH Q){o:Oper}(hnd:nM o=true){K K':Act->World->Prop}{ds:List Deferred}(hK:∀a w,K a w->a.defers=[])(hK':∀a w,K a w->K' (mr ds a) w){a:Act}{w:World}
  (h:o.wp P a w K Q):o.wpIn F n P (mr ds a) w K' Q':=by
 refine⟨fun f _=>hF.fn f,?_⟩;rw[fq _ _ _ (NU hnd),ID];unfold Oper.wp at h;have hb:=DI (P:=P) hQ hK (o:=o) (a:=a) (w:=w) h;generalize (execOp a.eval o).run P w=r at h;cases r with
 |ok x w'=>
  cases x with
  |value v=>simp only[cr,rL];exact hK' _ _ h
  |skip=>simp only[cr,rL];exact hK' _ _ h
  |defer d=>have:=hK _ _ h;rw[put_defers]at this;cases this
  |enter f args=>
   simp only[cr];refine⟨fun e=>absurd e hF.deep,hF.calls (Calls.mono h fun e w2 hr =>?_)⟩;cases e with
   |returned v=>simp only[rL];exact hK' _ _ hr
   |panicked c=>exact absurd hr (hQ.Qw _ _ _)
   |outgrown=>exact absurd hr hQ.out
  |row row args=>
   simp only[cr];refine⟨fun e=>absurd e hF.deep,hF.rows (Rows.mono h fun v w2 hr =>?_)⟩;simp only[rL];exact hK' _ _ hr
  |_=>exact h.elim
 |halt x w'=>
  cases x with
  |panic v=>exact absurd h (hQ.Qw _ _ _)
  |_=>exact h.elim
def xO(hQ:vH Q){ops:Array Oper}:∀(l:List Oper) (a:Act) (w:World),wpList P ops Q l a w->a.defers=[]
 |[],a,w,h=>hQ.bare _ _ _ h
 |o :: r,a,w,h=>by
  unfold wpList at h;split at h
  ·rcases h with h|⟨_,h⟩
   ·exact DI hQ (fun a w h=>xO hQ r a w h) h
   ·exact absurd h hQ.out
  ·have:=xO hQ r _ _ h;rwa [put_defers]at this
def DJ(hF:mO F)(hQ:vH Q){ds:List Deferred}(hE:∀a w,Q .normal a w->Q' .normal (mr ds a) w){ops:Array Oper}:∀(l:List Oper) (_:l.all nM=true) (a:Act) (w:World),wpList P ops Q l a w->wpListIn F n P ops Q' l (mr ds a) w
 |[],_,a,w,h=>hE a w h
 |o :: r,hl,a,w,h=>by
  simp only[List.all_cons,af]at hl;unfold wpListIn;unfold wpList at h;rw[IE];split
  ·rename_i hw
   rw[if_pos hw]at h;rcases h with h|⟨_,h⟩
   ·exact UY hF hQ hl.1 (fun a w h=>xO hQ r a w h) (fun a w h=>DJ hF hQ hE r hl.2 a w h) h
   ·exact absurd h hQ.out
  ·rename_i hw
   rw[if_neg hw]at h;refine⟨fun f _=>hF.fn f,?_⟩;rw[rL];exact DJ hF hQ hE r hl.2 _ _ h
def Qx(hQ:vH Q){ops:Array Oper}{i:Nat}{K:Act->World->Prop}(hK:∀a w,K a w->a.defers=[]){a:Act}{w:World}(h:wpOp P ops Q i K a w):a.defers=[]:=by
 unfold wpOp at h;split at h
 ·exact hK _ _ h
 ·split at h
  ·rcases h with h|⟨_,h⟩
   ·exact DI hQ hK h
   ·exact absurd h hQ.out
  ·have:=hK _ _ h;rwa [put_defers]at this
def IF(hQ:vH Q){ops:Array Oper}{md:fs}:∀(n:Nat) (L:Array Bool) (a:Act) (w:World),wpAny P md ops Q n L a w->a.defers=[]
 |0,_,_,_,h=>hQ.bare _ _ _ h.2
 |n+1,L,a,w,h=>by
  cases hr:Region.ready md ops L with
  |nil=>exact hQ.bare _ _ _ (h.1 hr)
  |cons i r=>exact Qx hQ (fun a w h=>IF hQ n _ a w h) (h.2 i (by rw[hr];simp))
def VI(hF:mO F)(hQ:vH Q){ops:Array Oper}(hl:ops.toList.all nM=true){ds:List Deferred}{i:Nat}{K K':Act->World->Prop}(hK:∀a w,K a w->a.defers=[])(hK':∀a w,K a w->K' (mr ds a) w){a:Act}{w:World}
  (h:wpOp P ops Q i K a w):wpOpIn F n P ops Q' i K' (mr ds a) w:=by
 unfold wpOpIn;unfold wpOp at h;split
 ·rename_i hi;simp only[hi]at h;exact hK' _ _ h
 ·rename_i o hi
  simp only[hi]at h;have ho:nM o=true:=ca.1 hl o (by rw[<-Array.getElem?_toList]at hi;exact br hi);rw[IE];split
  ·rename_i hw
   rw[if_pos hw]at h;rcases h with h|⟨_,h⟩
   ·exact UY hF hQ ho hK hK' h
   ·exact absurd h hQ.out
  ·rename_i hw
   rw[if_neg hw]at h;refine⟨fun f _=>hF.fn f,?_⟩;rw[rL];exact hK' _ _ h
def Qy(hF:mO F)(hQ:vH Q){ds:List Deferred}(hE:∀a w,Q .normal a w->Q' .normal (mr ds a) w){ops:Array Oper}(hl:ops.toList.all nM=true){md:fs}:∀(k:Nat) (L:Array Bool) (a:Act) (w:World),wpAny P md ops Q k L a w->wpAnyIn F n P md ops Q' k L (mr ds a) w
 |0,_,_,_,h=>⟨h.1,hE _ _ h.2⟩
 |k+1,L,a,w,h=>⟨fun e=>hE _ _ (h.1 e),fun i hi=>VI hF hQ hl (fun a w h=>IF hQ k _ a w h) (fun a w h=>Qy hF hQ hE hl k _ a w h) (h.2 i hi)⟩
end
def kE:Code->Bool
 |.skip=>true
 |.region _ ops _=>ops.toList.all nM
 |.seq a b=>kE a&&kE b
 |.cond _ a b=>kE a&&kE b
 |.block _ b=>kE b
 |.exit _=>true
 |.ret=>true
 |_=>false
section
variable{X:Ext}{P:Program}{cx:Cx}{F:Fence}{n:Nat}
def Ac(ds:List Deferred)(Q:Exit->Act->World->Prop):Exit->Act->World->Prop:=fun e a w=>∃a',a=mr ds a'/\a'.defers=[]/\Q e a' w
def A9{O:aH}{K:Ex->St->VC}{W:List Nat}{st:St}{S:bI}:vH (jA cx X O K W st S) where
 bare e a w h:=by
  cases e with
  |normal=>obtain⟨_,_,_,_,_,k,_⟩:=h;exact k.defers
  |exit i=>obtain⟨_,_,_,_,_,k,_⟩:=h;exact k.defers
  |ret=>obtain⟨_,_,_,_,_,k,_⟩:=h;exact k.defers
  |goto l=>exact h.elim
  |panic c=>exact h.elim
  |outgrown=>exact h.elim
 Qw c a w h:=h.elim
 out h:=let⟨_,_,hh⟩:=h;hh.elim
def jA.on{O:aH}{K:Ex->St->VC}{W:List Nat}{st:St}{S:bI}{ds:List Deferred}{e:Exit}{a:Act}{w:World}(h:jA cx X O K W st S e a w):Ac ds (jA cx X O K W st S) e (mr ds a) w:=⟨a,rfl,A9.bare _ _ _ h,h⟩
def WZ(hok:lu P cx X)(hF:mO F)(ds:List Deferred){O:aH}{id:Nat}{ops:Array Oper}{draw:Bool}(hl:ops.toList.all nM=true){st:St}{loc:Nat->Loc}{w:World}{a:Act}{K:Ex->St->VC}(hA:fS cx (aA O st loc w) st a)(g:Good cx.eT X (aA O st loc w))(hO:eX O w)
  (h:(yu cx ops draw st (K .normal)).holds):(Code.region id ops draw).wpIn F n P (Ac ds (jA cx X O K (dZ ops.toList) st (aA O st loc w))) (mr ds a) w:=by
 have hW:∀(j:Nat) (oj:Oper) (d:Nat),ops[j]?=some oj->oj.dst=some d->d∈dZ ops.toList:=by
  intro j oj d hj hd;exact eh.2 ⟨oj,by rw[<-Array.getElem?_toList]at hj;exact br hj,hd⟩
 have hq:∀st' loc' a' w',(K .normal st').holds->Good cx.eT X (aA O st' loc' w')->Tr (aA O st loc w) (aA O st' loc' w')->fS cx (aA O st' loc' w') st' a'->nC (dZ ops.toList) st st'->
   jA cx X O K (dZ ops.toList) st (aA O st loc w) .normal a' w':=fun st' loc' a' w' h1 h2 h3 h4 h5=>⟨st',loc',h1,h2,h3,h4,h5⟩
 unfold yu at h;cases draw with
 |false=>
  refine wpIn_region_list (DJ hF A9 (fun a w h=>h.on) _ hl _ _ ?_);exact yY hok hW ops.toList (fun o ho d hd=>eh.2 ⟨o,ho,hd⟩) hA g hO h hq
 |true=>
  split at h
  ·rename_i e;cases e
  ·rename_i e
   split at h
   ·rename_i hreg
    rw[Ll]at h;refine wpIn_region_any hok.mixed (Qy hF A9 (fun a w h=>h.on) hl _ _ _ _ (Dp (loud:=kn cx ops.toList) _ _ _ _ (aA O st loc {w with drawn:=w.drawn+1}).A ?_));have hdrew:Below w.heap.size w {w with drawn:=w.drawn+1}:=⟨rfl,rfl,ak _,fun _ _=>rfl⟩;obtain⟨tr,g'⟩:=pb (S:=aA O st loc w) (S':=aA O st loc {w with drawn:=w.drawn+1}) g rfl rfl rfl rfl hdrew;refine yZ hok hW hreg (fun c a w h=>h) ops.size _ ?_ ⟨hA.size,hA.defers,hA.env.tr tr⟩ g' (hO.tr (ak _)) h ?_
    ·intro j o ho hj
     rw[ei,Array.getElem?_replicate]at hj;split at hj <;> simp at hj
    ·intro st' loc' a' w' h1 h2 h3 h4 h5
     obtain⟨st2,loc2,k1,k2,k3,k4,k5⟩:=fZ.XD (K:=K .normal) (f:=canon st.next (dZ ops.toList)) (W:=dZ ops.toList) hA (fun st'=>by
      rcases BY st.next (dZ ops.toList) st' with e|⟨r,q,k1,k2⟩
      ·exact .inl e
      ·exact .inr ⟨r,q,k1,k2⟩) (⟨st',loc',h1,h2,tr.trans h3,h4,h5⟩:fZ cx X O (fun st'=>K .normal (canon st.next (dZ ops.toList) st')) (dZ ops.toList) st (aA O st loc w) a' w')
     exact hq st2 loc2 a' w' k1 k2 k3 k4 k5
   ·exact h.elim
def Ac.mono{ds:List Deferred}{Q Q':Exit->Act->World->Prop}(h:∀e a w,Q e a w->Q' e a w){e:Exit}{a:Act}{w:World}(hq:Ac ds Q e a w):Ac ds Q' e a w:=let⟨a',k1,k2,k3⟩:=hq;⟨a',k1,k2,h _ _ _ k3⟩
def xP(hok:lu P cx X)(hF:mO F)(ds:List Deferred){O:aH}:∀(c:Code) (cur:Nat) (_:kE c=true) {st:St} {loc:Nat->Loc} {w:World} {a:Act} {K:Ex->St->VC},
  fS cx (aA O st loc w) st a->Good cx.eT X (aA O st loc w)->eX O w->(vc cx [] c cur st K).holds->c.wpIn F n P (Ac ds (jA cx X O K (writes [] cur c) st (aA O st loc w))) (mr ds a) w:=by
 intro c;induction c with
 |skip=>intro cur _ st loc w a K hA g hO h;exact wpIn_skip (jA.on ⟨st,loc,h,g,Tr.refl _,hA,fun _ _ _ _ h=>h⟩)
 |region id ops draw=>
  intro cur hs st loc w a K hA g hO h;exact WZ hok hF ds hs hA g hO h
 |seq c1 c2 ih1 ih2=>
  intro cur hs st loc w a K hA g hO h;simp only[kE,af]at hs;refine wpIn_seq ?_;refine wpIn_mono (ih1 cur hs.1 hA g hO h) ?_;rintro e a0 w' ⟨a',rfl,hb,hq⟩;have key:∀e,e≠.normal->jA cx X O (fun e st'=>match e with
   |.normal=>vc cx [] c2 cur st' K
   |e=>K e st') (writes [] cur c1) st (aA O st loc w) e a' w'->Ac ds (jA cx X O K (writes [] cur (.seq c1 c2)) st (aA O st loc w)) e (mr ds a') w':=by
   intro e he hq;refine jA.on (jA.mono (W:=writes [] cur c1) (st1:=st) (S1:=aA O st loc w) ?_ (Tr.refl _) (fun _ _ _ _ h=>h) (fun n hn=>au.2 (.inl hn)));cases e with
   |normal=>exact absurd rfl he
   |exit i=>exact hq
   |ret=>exact hq
   |goto l=>exact hq.elim
   |panic c=>exact hq.elim
   |outgrown=>exact hq.elim
  cases e with
  |normal=>
   obtain⟨st',loc',k1,k2,k3,k4,k5⟩:=hq;refine wpIn_mono (ih2 cur hs.2 k4 k2 (hO.tr k3.size) k1) ?_;intro e a2 w2 hq2;exact hq2.mono fun e a w hq=>hq.mono k3 (W':=writes [] cur (.seq c1 c2)) (fun hm t ht=>k5 (fun h=>hm (au.2 (.inl h))) t fun hm=>ht (au.2 (.inl hm))) (fun n hn=>au.2 (.inr hn))
  |exit i=>exact key _ (by simp) hq
  |ret=>exact key _ (by simp) hq
  |goto l=>exact hq.elim
  |panic c=>exact hq.elim
  |outgrown=>exact hq.elim
 |cond x c1 c2 ih1 ih2=>
  intro cur hs st loc w a K hA g hO h;simp only[kE,af]at hs;have hx:=bN hA.env x;have h1:∀{K},(vc cx [] c1 cur st K).holds->c1.wpIn F n P (Ac ds (jA cx X O K (writes [] cur (.cond x c1 c2)) st (aA O st loc w))) (mr ds a) w:=fun h=>
   wpIn_mono (ih1 cur hs.1 hA g hO h) fun e a' w' hq=>hq.mono fun e a w hq=>hq.mono (Tr.refl _) (fun _ _ _ _ h=>h) (fun n hn=>au.2 (.inl hn))
  have h2:∀{K},(vc cx [] c2 cur st K).holds->c2.wpIn F n P (Ac ds (jA cx X O K (writes [] cur (.cond x c1 c2)) st (aA O st loc w))) (mr ds a) w:=fun h=>
   wpIn_mono (ih2 cur hs.2 hA g hO h) fun e a' w' hq=>hq.mono fun e a w hq=>hq.mono (Tr.refl _) (fun _ _ _ _ h=>h) (fun n hn=>au.2 (.inr hn))
  have hev:(mr ds a).eval x=a.eval x:=by rw[ID]
  have h':(match eE st.env x with
    |.lit true=>vc cx [] c1 cur st K
    |.lit false=>vc cx [] c2 cur st K
    |.d .bool g =>.ite g (vc cx [] c1 cur st K) (vc cx [] c2 cur st K)
    |_ =>.ff).holds:=h
  split at h'
  ·rename_i hl;rw[hl]at hx;exact wpIn_cond_true (hev.trans hx) (h1 h')
  ·rename_i hl;rw[hl]at hx;exact wpIn_cond_false (hev.trans hx) (h2 h')
  ·rename_i b hl
   rw[hl]at hx;have hx:=(eS (eT:=cx.eT) (S:=aA O st loc w) (b:=b)).1 hx;cases b
   ·exact wpIn_cond_false (hev.trans hx) (h2 (h'.2 rfl))
   ·exact wpIn_cond_true (hev.trans hx) (h1 (h'.1 rfl))
  ·exact h'.elim
 |block id b ih=>
  intro cur hs st loc w a K hA g hO h;refine wpIn_block ?_;have h':(vc cx [] b id st fun e st'=>match e with
   |.exit i=>match bp i id with
    |true=>K .normal st'
    |false=>K (.exit i) st'
   |e=>K e st').holds:=h
  refine wpIn_mono (ih id hs hA g hO h') ?_;rintro e a0 w' ⟨a',rfl,hb,hq⟩;cases e with
  |normal=>exact jA.on hq
  |exit i=>
   obtain⟨st',loc',k1,k2,k3,k4,k5⟩:=hq;simp only at k1;show if i=id then _ else _
   split at k1
   ·rename_i hi
    rw[if_pos (bz hi)];exact jA.on ⟨st',loc',k1,k2,k3,k4,k5⟩
   ·rename_i hi
    rw[if_neg (fun e=>by rw[e,Nat.beq_refl]at hi;cases hi)];exact jA.on ⟨st',loc',k1,k2,k3,k4,k5⟩
  |ret=>exact jA.on hq
  |goto l=>exact hq.elim
  |panic c=>exact hq.elim
  |outgrown=>exact hq.elim
 |exit id=>intro cur _ st loc w a K hA g hO h;exact wpIn_exit (jA.on ⟨st,loc,h,g,Tr.refl _,hA,fun _ _ _ _ h=>h⟩)
 |ret=>intro cur _ st loc w a K hA g hO h;exact wpIn_ret (jA.on ⟨st,loc,h,g,Tr.refl _,hA,fun _ _ _ _ h=>h⟩)
 |_=>intro cur hs;cases hs
end
structure sq (B:Nat) (W W':World):Prop where
 os:W'.os=W.os
 output:W'.output=W.output
 size:W.heap.size<=W'.heap.size
 below:∀k,k<B->k<W.heap.size->W'.heap[k]?=W.heap[k]?
 cells:∀(k:Nat) (o:Obj),W.heap[k]?=some o->o.isCells=true->W'.heap[k]?=W.heap[k]?
def sq.of{B:Nat}{W W':World}{row:Option Nat}(hg:W.grownBy W' row)(hr:∀r,row=some r->B<=r/\∃o:Obj,W.heap[r]?=some o/\o.isCells=false):sq B W W':=
 ⟨hg.os,hg.output,hg.size,fun k h1 h2=>hg.block k h2 (fun e=>by have:=(hr k e.symm).1;omega),fun k o hk hc=>grownBy_keeps_cells hg (fun r e=>(hr r e).2) hk hc⟩
def sq.cell{B:Nat}{W W':World}(h:sq B W W'){b o:Nat}{v:Value}(hc:W.cell? ⟨b,o,none⟩=some v):W'.cell? ⟨b,o,none⟩=some v:=by
 obtain⟨ob,ho,hcs⟩:=cells_of_cell hc;exact(World.cell?_of_block (h.cells _ ob ho hcs)).trans hc
def plainO:OC->Bool
 |.cells _ _=>true
 |.aV _ _=>true
 |.arr _ _=>true
 |.tok _ _=>true
 |.ext k _ _=>bp k 0 || bp k 2
 |.iter _ _ _=>false
def ot:List (Nat×OC)->Bool
 |[]=>true
 |(_,oc) :: r=>plainO oc&&ot r
def mB:∀{l:List (Nat×OC)},ot l=true->∀{n:Nat} {oc:OC},look l n=some oc->plainO oc=true
 |[],_,_,_,h=>by simp[look]at h
 |(m,x) :: r,hp,n,oc,h=>by
  simp only[ot,af]at hp;rw[cF]at h;split at h
  ·cases h;exact hp.1
  ·exact mB hp.2 h
section
variable{eT:TypeId}{X:Ext}
def CR.mb{S S':bI}(hob:S'.ob=S.ob)(hloc:S'.loc=S.loc)(hn:S'.next=S.next)(hc:∀b o v,¬S.A b o->S.w.cell? ⟨b,o,none⟩=some v->S'.w.cell? ⟨b,o,none⟩=some v/\¬S'.A b o)
  {c:C}{v:Value}(h:CR eT S c v):CR eT S' c v:=by
 cases c with
 |d t x=>exact VR.frame h hc
 |app t xs n=>obtain⟨h1,h2,h3⟩:=h;exact⟨VR.frame h1 hc,by rw[hn];exact h2,by rw[hob,hloc];exact h3⟩
 |oJ t x=>obtain⟨b,o,us,rfl,h1,h2⟩:=h;exact⟨b,o,us,rfl,h1.frame hc,h2.frame hc⟩
 |fn f caps=>simp only[CR,bI.fixed,hob,hloc,hn]at h ⊢;exact h
 |_=>simp only[CR,hob,hloc,hn]at h ⊢ <;> exact h
def eK.mb{S S':bI}(hob:S'.ob=S.ob)(hloc:S'.loc=S.loc)(hn:S'.next=S.next)(hc:∀b o v,¬S.A b o->S.w.cell? ⟨b,o,none⟩=some v->S'.w.cell? ⟨b,o,none⟩=some v/\¬S'.A b o)
  {cs:List C}{vs:List Value}(h:eK eT S cs vs):eK eT S' cs vs:=by
 induction h with
 |nil=>exact .nil
 |cons h1 h2 _ ih=>exact .cons (h1.mb hob hloc hn hc) h2 ih
def iz.mb{S S':bI}(hob:S'.ob=S.ob)(hloc:S'.loc=S.loc)(hn:S'.next=S.next)(hc:∀b o v,¬S.A b o->S.w.cell? ⟨b,o,none⟩=some v->S'.w.cell? ⟨b,o,none⟩=some v/\¬S'.A b o)
  {x:cO}{v:Value}(h:iz eT S x v):iz eT S' x v:=by
 cases x with
 |one c=>exact CR.mb hob hloc hn hc h
 |agg cs=>obtain⟨vs,rfl,h1⟩:=h;exact⟨vs,rfl,h1.mb hob hloc hn hc⟩
def cQ.mb{S S':bI}(hob:S'.ob=S.ob)(hloc:S'.loc=S.loc)(hn:S'.next=S.next)(hc:∀b o v,¬S.A b o->S.w.cell? ⟨b,o,none⟩=some v->S'.w.cell? ⟨b,o,none⟩=some v/\¬S'.A b o)
  {xs:List cO}{vs:List Value}(h:cQ eT S xs vs):cQ eT S' xs vs:=by
 induction h with
 |nil=>exact .nil
 |cons h1 _ ih=>exact .cons (h1.mb hob hloc hn hc) ih
def dO.mb{S S':bI}(hob:S'.ob=S.ob)(hloc:S'.loc=S.loc)(hn:S'.next=S.next)(hc:∀b o v,¬S.A b o->S.w.cell? ⟨b,o,none⟩=some v->S'.w.cell? ⟨b,o,none⟩=some v/\¬S'.A b o)
  {x:SV}{v:Value}(h:dO eT S x v):dO eT S' x v:=by
 cases x with
 |s x=>exact iz.mb hob hloc hn hc h
 |mP xs=>obtain⟨vs,rfl,h1⟩:=h;exact⟨vs,rfl,h1.mb hob hloc hn hc⟩
def OR.mb{S S':bI}(hob:S'.ob=S.ob)(hloc:S'.loc=S.loc)(hn:S'.next=S.next)(hc:∀b o v,¬S.A b o->S.w.cell? ⟨b,o,none⟩=some v->S'.w.cell? ⟨b,o,none⟩=some v/\¬S'.A b o)
  {l:Loc}{oc:OC}(hb:∀b,b∈l.bs->S'.w.heap[b]?=S.w.heap[b]?)(ho:OR eT X S l oc):OR eT X S' l oc:=by
 have he:∀{t:Ty} {xs:List (D t)} {vs:Array Value},kJ eT S t xs vs->kJ eT S' t xs vs:=fun h i y hy=>let⟨us,h1,h2⟩:=h i y hy;⟨us,h1.frame hc,h2⟩
 cases oc with
 |cells T cs=>
  obtain⟨b,vs,h1,h2,h3,h4⟩:=ho;exact⟨b,vs,h1,h2,by rw[hb b (by simp[h2])];exact h3,h4.mb hob hloc hn hc⟩
 |aV t xs=>
  rcases ho with ho|⟨b,vs,T,cap,h1,h2,h3,h4,h5,h6,h7⟩
  ·exact .inl ho
  ·exact .inr ⟨b,vs,T,cap,h1,h2,by rw[hb b (by simp[h2])];exact h3,h4,h5,h6,he h7⟩
 |arr t xs=>
  obtain⟨b,vs,T,h1,h2,h3,h4,h5⟩:=ho;exact⟨b,vs,T,h1,h2,by rw[hb b (by simp[h2])];exact h3,h4,he h5⟩
 |tok t xs=>
  rcases ho with ho|⟨b,vs,T,cap,h1,h2,h3,h4,h5,h6,h7⟩
  ·exact .inl ho
  ·exact .inr ⟨b,vs,T,cap,h1,h2,by rw[hb b (by simp[h2])];exact h3,h4,h5,h6,he h7⟩
 |ext k t x=>exact X.frame ho hb
 |iter cs seen cl=>
  obtain⟨b,m,c,sn,h1,h2,h3,h4,h5,h6⟩:=ho;exact⟨b,m,c,sn,h1,h2,by rw[hb b (by simp[h2])];exact h3,h4.mb hob hloc hn hc,h5,h6⟩
def OR.Qz{S:bI}{l:Loc}{oc:OC}(hp:plainO oc=true)(ho:OR eT X S l oc):∀b∈l.bs,∃vs T fz,S.w.heap[b]?=some (.cells vs T fz):=by
 intro b hb;cases oc with
 |cells T cs=>obtain⟨b',vs,_,h2,h3,_⟩:=ho;rw[h2]at hb;simp at hb;subst hb;exact⟨_,_,_,h3⟩
 |aV t xs=>
  rcases ho with⟨_,_,h⟩|⟨b',vs,T,cap,_,h2,h3,_⟩
  ·rw[h]at hb;simp at hb
  ·rw[h2]at hb;simp at hb;subst hb;exact⟨_,_,_,h3⟩
 |arr t xs=>obtain⟨b',vs,T,_,h2,h3,_⟩:=ho;rw[h2]at hb;simp at hb;subst hb;exact⟨_,_,_,h3⟩
 |tok t xs=>
  rcases ho with⟨_,_,h⟩|⟨b',vs,T,cap,_,h2,h3,_⟩
  ·rw[h]at hb;simp at hb
  ·rw[h2]at hb;simp at hb;subst hb;exact⟨_,_,_,h3⟩
 |ext k t x=>
  simp only[plainO,bq]at hp;rcases hp with hp|hp
  ·have:=bz hp
   subst this;have hd:kI t x l S.w:=X.deep.1 ho;cases t with
   |slice e=>
    obtain⟨s,_,top,hs,_,⟨_,_,_,h⟩|⟨b',vs,T,cap,cs,_,h2,h3,_,_,_,h4⟩⟩:=hd
    ·rw[h]at hb;simp at hb
    ·rw[h2]at hb
     rcases ag.1 hb with rfl|hb
     ·exact⟨_,_,_,h3⟩
     ·obtain⟨c,hc,hcb⟩:=eh.1 hb
      simp at hcb;subst hcb;obtain⟨i,hi⟩:=List.getElem?_of_mem hc;obtain⟨_,vs',T',h5⟩:=h4.yP i b hi;exact⟨_,_,_,h5⟩
   |_=>exact hd.elim
  ·have:=bz hp
   subst this;obtain⟨rfl,b',p,v,h⟩:=X.OO.1 ho;rw[h.bs]at hb;rcases ag.1 hb with rfl|hb
   ·exact⟨_,_,_,h.heap⟩
   ·rcases h.row.2 with⟨rfl,_⟩|⟨g,cap,cur,rfl,_,hg,_⟩
    ·simp[ft]at hb
    ·simp[ft]at hb;subst hb;exact⟨_,_,_,hg⟩
 |iter cs seen cl=>cases hp
def xQ{S:bI}{W':World}{B:Nat}(g:Good eT X S)(hb:sq B S.w W')(hp:∀n oc,S.ob n=some oc->plainO oc=true)(hg:∀b∈X.D6,b<B):Good eT X {S with w:=W'} where
 obj n oc h:=⟨(g.obj n oc h).1,OR.mb (S:=S) (S':={S with w:=W'}) rfl rfl rfl (fun b o v ha hc=>⟨hb.cell hc,ha⟩) (fun b hbm=>let⟨_,_,_,e⟩:=(g.obj n oc h).2.Qz (hp n oc h) b hbm;hb.cells b _ e rfl) (g.obj n oc h).2⟩
 apart:=g.apart
 out:=g.out
 kX:=⟨X.Bz g.kX.1 fun b hbm=>hb.below b (hg b hbm) (X.GJ g.kX.1 b hbm),g.kX.2⟩
def DK{S0 S:bI}{W':World}{B:Nat}(t:Tr S0 S)(hb:sq B S.w W')(hB:S0.w.heap.size<=B):Tr S0 {S with w:=W'} where
 O:=t.O
 next:=t.next
 os:=hb.os.trans t.os
 output:=hb.output.trans t.output
 size:=b5 t.size hb.size
 own:=t.own
 cell b o v ha hc:=let⟨h1,h2⟩:=t.cell b o v ha hc;⟨hb.cell h1,h2⟩
 block b hlt ho:=(hb.below b (de hlt hB) (de hlt t.size)).trans (t.block b hlt ho)
 loc:=t.loc
 kind:=t.kind
def Ba{S:bI}{W':World}{B:Nat}{env:List (Nat×SV)}{a:Act}(h:gD eT S env a)(hb:sq B S.w W'):gD eT {S with w:=W'} env a:=
 fun t sv ht=>dO.mb (S:=S) (S':={S with w:=W'}) rfl rfl rfl (fun b o v ha hc=>⟨hb.cell hc,ha⟩) (h t sv ht)
def Fh{S:bI}(g:Good eT X S)(hp:∀n oc,S.ob n=some oc->plainO oc=true){k:Nat}{o:Obj}(hk:S.w.heap[k]?=some o)(ho:o.isCells=false):¬S.owns k:=by
 rintro⟨n,oc,h1,h2⟩;obtain⟨vs,T,fz,e⟩:=(g.obj n oc h1).2.Qz (hp n oc h1) k h2;rw[hk]at e;cases e;cases ho
end
def vI:List Ob->List Nat->List Nat->Bool
 |o :: os,n0 :: ns0,n :: ns=>(match lh o o with|true=>bp n n0|false=>true)&&vI os ns0 ns
 |_,_,_=>true
def Fi:∀{aN:List Ob} {ν0 ν:List Nat} {i n0 n:Nat} {o:Ob},vI aN ν0 ν=true->aN[i]?=some o->lh o o=true->ν0[i]?=some n0->ν[i]?=some n->n=n0
 |[],_,_,_,_,_,_,_,h,_,_,_=>by simp at h
 |_ :: _,[],_,_,_,_,_,_,_,_,h,_=>by simp at h
 |_ :: _,_ :: _,[],_,_,_,_,_,_,_,_,h=>by simp at h
 |a :: os,m0 :: ns0,m :: ns,0,n0,n,o,h,h1,h2,h3,h4=>by
  simp at h1 h3 h4;subst h1;subst h3;subst h4;simp only[vI,h2,af]at h;exact bz h.1
 |a :: os,m0 :: ns0,m :: ns,i+1,n0,n,o,h,h1,h2,h3,h4=>by
  simp only[vI,af]at h;exact Fi h.2 (by simpa using h1) h2 (by simpa using h3) (by simpa using h4)
def CK(an:ju)(ν0:List Nat)(st st':St)(more:an.X->Prop):VC:=
 match ud st' an with
 |some ν=>match nodupB ν&&(ue st' an ν an.refs&&vI an.aN ν0 ν),eL false st'.aF an.aN ν an.aN ν with
  |true,some y =>.leaf (Hm (yr st' an y an.refs++iV an.aN y st'.aF an.aN ν++[∃x',an.inv x'/\more x'/\mi st' (an.bM x')/\mj st' (an.aF x'++iH st an.gU)/\(oZ ν (pw an st x')=true/\y=an.pd x')]))
  |_,_ =>.ff
 |none =>.ff
def CL{an:ju}{ν0:List Nat}{st st':St}{more:an.X->Prop}(h:(CK an ν0 st st' more).holds):∃x,an.inv x/\more x/\∃ν,Ht an st st' x ν/\vI an.aN ν0 ν=true:=by
 unfold CK at h;split at h
 ·rename_i ν _
  split at h
  ·rename_i y hc hy
   simp only[af]at hc;have hall:=uZ h;obtain⟨x,h1,h2,h3,h4,h5,h6⟩:=hall (∃x',an.inv x'/\more x'/\mi st' (an.bM x')/\mj st' (an.aF x'++iH st an.gU)/\(oZ ν (pw an st x')=true/\y=an.pd x')) (ej _ (db.2 rfl));subst h6;obtain⟨k1,_⟩:=jo.1 hall;obtain⟨k1,k2⟩:=jo.1 k1;exact⟨x,h1,h2,ν,⟨hc.1,hc.2.1,hy,k1,k2,h3,h4,h5⟩,hc.2.2⟩
  ·exact h.elim
 ·exact h.elim
section
variable{X:Ext}{cx:Cx}
end
structure lI:Type 1 where
 inv:List Nat->Prop
 keep:List Nat
 gU:List Nat:=[]
 ib:List Nat:=[]
 aN:List Ob:=[]
 refs:List (Nat×Nat):=[]
 pd:List Nat->PD aN:=fun _=>MJ aN
def lI.xR(r:lI):ju:={X:=List Nat,inv:=r.inv,cB:=fun _=>0,bM:=fun _=>[],keep:=r.keep,gU:=r.gU,aN:=r.aN,refs:=r.refs,pd:=r.pd}
def W0(r:lI)(ν0:List Nat)(st:St):List Nat:=mF r.aN r.aN ν0 st.next
def gL(r:lI)(ν0:List Nat)(st:St)(pre:List Nat):St:=fD r.xR st (W0 r ν0 st) pre
def qS(r:lI)(ν0:List Nat)(st:St)(pre:List Nat):Bool:=px r.xR st [] pre&&(ot (gL r ν0 st pre).aF&&(nodupB (W0 r ν0 st)&&jX (st.next+r.aN.length) (W0 r ν0 st)))
def dR{t:Ty}(xs:List (D t))(k i:Nat):List (D t):=(xs.drop (i*k)).take k
def eY(n k:Nat):Nat:=(n+k-1) / k
def kx(a:Option Addr)(n k i:Nat):Value:=.slice (a.map fun p=>{p with off:=p.off+i*k}) (min k (n-i*k)) (min k (n-i*k))
def yG(ps:List Tmp)(asg:Code):Option (Nat×Nat):=
 match ps,asg with
 |[p],.region _ ops false=>match ops.toList with
  |[o]=>match o.dst,o.op,o.guard with
   |some d,.assign (.tmp q),none=>match bp q p with
    |true=>some (p,d)
    |false=>none
   |_,_,_=>none
  |_=>none
 |_,_=>none
def UZ(st:St)(r:lI):lI:={r with keep:=(B0 st.env r.keep).filter (fun t=>qK [t] r.refs),gU:=match r.gU with
 |[]=>qJ (r.ib++(match ud st r.xR with|some l=>l|none=>[])) st.aF
 |l=>l}
@[reducible] def LJ:Ty:=.slice (.int .u8)
def GF(an:lI)(ν0:List Nat)(st1:St)(bs:List (D (.int .u8)))(kN p d:Nat)(pre:List Nat)(i:Nat):St:=
 {gL an ν0 st1 pre with env:=(d,.s (.one (.d LJ (dR bs kN i)))) :: (p,.s (.one (.d LJ (dR bs kN i)))) :: (gL an ν0 st1 pre).env}
def rK(an:lI)(ν0:List Nat)(st1:St)(K:Ex->St->VC)(pre:List Nat)(i:Nat):Ex->St->VC:=fun e st'=>match e with
 |.normal=>CK an.xR ν0 st1 {st' with env:=(gL an ν0 st1 pre).env} fun x=>x=pre++[i]
 |.ret=>match ot st'.aF with
  |true =>.imp (pre=ba i) (K .ret {st' with env:=(gL an ν0 st1 pre).env})
  |false =>.ff
 |.exit _ =>.ff
def U0(cx:Cx)(an:lI)(st1:St)(bs:List (D (.int .u8)))(k:Int)(p d:Nat)(body:Code)(K:Ex->St->VC):VC:=
 match ud st1 an.xR with
 |some ν0 =>.both (.leaf (1<=k/\k<=1000000000/\bs.length<=1000000000))
  (.both (CK an.xR ν0 st1 st1 fun x=>x=[]) (.both (.all (List Nat) fun pre =>.imp (an.inv pre) (match qS an ν0 st1 pre with
    |true =>.all Nat fun i =>.imp (pre.length<eY bs.length k.toNat)
     (vc cx [] body 0 (GF an ν0 st1 bs k.toNat p d pre i) (rK an ν0 st1 K pre i))
    |false =>.ff))
   (.imp (an.inv (ba (eY bs.length k.toNat))) (K .normal (gL an ν0 st1 (ba (eY bs.length k.toNat)))))))
 |none =>.ff
def TB(cx:Cx)(it:FuncId)(r:St->lI)(g:Operand)(p d:Nat)(body:Code)(st:St)(K:Ex->St->VC):VC:=
 match eE st.env g with
 |.fn f [n1,n2]=>match bp f it&&!bp n1 n2,look st.aF n1,look st.aF n2 with
  |true,some (.cells _ [.d (.slice (.int .u8)) bs]),some (.cells _ [.d (.int .i64) k])=>
   U0 cx (UZ (bA (bA st n1) n2) (r (bA (bA st n1) n2))) (bA (bA st n1) n2) bs k p d body K
  |_,_,_ =>.ff
 |_ =>.ff
def uA(P:Program)(it:FuncId):Prop:=
 ∀(b1 b2:Nat) (a:Option Addr) (len cap k:Nat) (w:World),1<=k->k<=1000000000->len<=1000000000->len<=cap->(0<len->∃b o,a=some ⟨b,o,none⟩)->b1<w.heap.size->b2<w.heap.size->w.cell? ⟨b1,0,none⟩=some (.slice a len cap)->w.cell? ⟨b2,0,none⟩=some (.int .i64 k)->
  SeqStopsK bd 2 P it #[.pointer (some ⟨b1,0,none⟩),.pointer (some ⟨b2,0,none⟩)] (fun i:Nat =>#[kx a len k i])
   (fun A B=>B.cell? ⟨b1,0,none⟩=A.cell? ⟨b1,0,none⟩/\B.cell? ⟨b2,0,none⟩=A.cell? ⟨b2,0,none⟩) (fun xs=>xs=ba (eY len k)) (fun pre=>∃j,pre=ba j) (eY len k) w
def pL{t:Ty}(xs:List (D t))(k i:Nat):(dR xs k i).length=min k (xs.length-i*k):=by simp[dR]
section
variable{eT:TypeId}{X:Ext}
def TC{bs:List (D (.int .u8))}{A:aH}{w:World}{v:Value}(h:VR eT LJ bs A w v) :
  ∃a cap,v=.slice a bs.length cap/\bs.length<=cap/\(0<bs.length->∃b o,a=some ⟨b,o,none⟩)/\∀k i,VR eT LJ (dR bs k i) A w (kx a bs.length k i):=by
 obtain⟨v',e,hbig,h⟩:=h.one rfl;cases e;rcases h with⟨rfl,a,c,rfl⟩|⟨b,o,cap,rfl,hc,h⟩
 ·refine⟨a,c,rfl,ar _,fun h=>absurd h (Nat.lt_irrefl _),fun k i=>VR.cI rfl ⟨_,rfl,by simp[dR],.inl ⟨by simp[dR],a.map fun p=>{p with off:=p.off+i*k},0,by simp[kx]⟩⟩⟩
 ·refine⟨some ⟨b,o,none⟩,cap,rfl,hc,fun _=>⟨b,o,rfl⟩,fun k i=>VR.cI rfl ⟨_,rfl,by rw[pL];omega,.inr ⟨b,o+i*k,min k (bs.length-i*k),by rw[pL];rfl,by rw[pL];exact ak _,fun j y hj =>?_⟩⟩⟩
  have hj':bs[i*k+j]?=some y:=by
   unfold dR at hj;rw[List.getElem?_take]at hj;split at hj
   ·rwa [List.getElem?_drop]at hj
   ·cases hj
  obtain⟨us,h1,h2⟩:=h _ y hj';refine⟨us,h1,fun m u hm =>?_⟩;have:=h2 m u hm;rw[show o+i*k+j*(Ty.int dm).size+m=o+(i*k+j)*(Ty.int dm).size+m by simp[Ty.size];omega];exact this
end
section
variable{P:Program}{F:Fence}{n:Nat}
def QA{K:Act->World->Prop}{id:Nat}{ops:Array Oper}{o:Oper}{d q:Nat}(ho:ops.toList=[o])(hd:o.dst=some d)(hop:o.op=.assign (.tmp q))(hg:o.guard=none){a:Act}{w:World}(hF:∀f,F.fn f)
  (h:K (a.put (some d) (a.eval (.tmp q))) w):(Code.region id ops false).wpIn F n P (Exit.then K (fun _ _ _=>False)) a w:=by
 refine wpIn_region_list ?_;rw[ho];unfold wpListIn;rw[if_pos (by simp[Region.wanted,hg])];refine⟨fun f _=>hF f,?_⟩;rw[fq _ _ _ (by simp[hop])];have e:(execOp a.eval o).run P w=.ok (.value (a.eval (.tmp q))) w:=by unfold execOp;rw[hop];rfl
 rw[e];simp only[cr,hd];exact h
end
def KC{ps:List Tmp}{asg:Code}{p d:Nat}(h:yG ps asg=some (p,d)):ps=[p]/\∃id ops o,asg=.region id ops false/\ops.toList=[o]/\o.dst=some d/\o.op=.assign (.tmp p)/\o.guard=none:=by
 unfold yG at h;split at h
 ·split at h
  ·split at h
   ·split at h
    ·cases h
     rename_i hb _;have:=bz hb;subst this;exact⟨rfl,_,_,_,rfl,by assumption,by assumption,by assumption,by assumption⟩
    ·cases h
   ·cases h
  ·cases h
 ·cases h
def NV(D:Nat):Deferred:={target:=.collected D,args:=#[]}
def yH{a:Act}(h:a.defers=[]):mr [] a=a:=by cases a;simp only at h;subst h;rfl
section
variable{X:Ext}{P:Program}{cx:Cx}
structure NW (cx:Cx) (X:Ext) (O:aH) (K:St->VC) (S:bI) (a a':Act) (w':World) (D:Nat) (st':St) (loc':Nat->Loc):Prop where
 act:a'=mr [NV D] a
 vc:(K st').holds
 eP:Good cx.eT X (aA O st' loc' w')
 tr:Tr S (aA O st' loc' w')
 env:gD cx.eT (aA O st' loc' w') st'.env a
 XT:S.w.heap.size<=D
 mark:w'.heap[D]?=some (.deferred (some []))
 plain:ot st'.aF=true
def QR(cx:Cx)(X:Ext)(O:aH)(K:Ex->St->VC)(S:bI)(a:Act):Exit->Act->World->Prop
 |.normal,a',w'=>∃D st' loc',NW cx X O (K .normal) S a a' w' D st' loc'
 |.ret,a',w'=>∃D st' loc',NW cx X O (K .ret) S a a' w' D st' loc'
 |_,_,_=>False
def pM{st:St}:∀{l:List Nat} {n:Nat} {v:SV},n∈l->look st.env n=some v->look (nD st l) n=some v
 |[],_,_,h,_=>by simp at h
 |t :: r,n,v,h,hv=>by
  simp only[nD];by_cases e:t=n
  ·subst e
   rw[hv];simp only[cF,if_true]
  ·have hn:n∈r:=(ag.1 h).resolve_left fun h=>e h.symm
   cases look st.env t with
   |none=>exact pM hn hv
   |some u=>simp only[cF,if_neg e];exact pM hn hv
def TD{an:ju}{st:St}{us:List Nat}{x:an.X}(hs:an.bM x=[])(hnr:qK an.keep an.refs=true){n:Nat}(hn:n∈an.keep){v:SV}(h:look st.env n=some v):look (fD an st us x).env n=some v:=by
 simp only[fD,yt,eQ,hs];split
 ·rename_i u hu
  obtain⟨k,hk,_⟩:=qq hu;exact absurd hn (vf hnr hk)
 ·simp only[look]
  exact pM hn h
def CM{O:aH}{an:lI}{ν0:List Nat}{st1 st':St}{loc loc':Nat->Loc}{w W:World}{a:Act}{pre:List Nat}(g:Good cx.eT X (aA O st' loc' W))(hsz:a.tmps.size=cx.N)(hdf:a.defers=[])(henv:gD cx.eT (aA O st' loc' W) st'.env a)
  (ht:Tr (aA O st1 loc w) (aA O st' loc' W))(hkeep:∀n∈an.keep,∀v,look st1.env n=some v->∃u,look st'.env n=some u/\n9 u v)(hf:∃ν,Ht an.xR st1 st' pre ν/\vI an.aN ν0 ν=true)(hB:qS an ν0 st1 pre=true) :
  ∃loc2,Good cx.eT X (aA O (gL an ν0 st1 pre) loc2 W)/\gD cx.eT (aA O (gL an ν0 st1 pre) loc2 W) (gL an ν0 st1 pre).env a/\Tr (aA O st1 loc w) (aA O (gL an ν0 st1 pre) loc2 W):=by
 simp only[qS,af]at hB;obtain⟨h1,_,h3,h4⟩:=hB;obtain⟨ν,hf,hk⟩:=hf;obtain⟨loc2,m1,m2,m3⟩:=Er (an:=an.xR) (st:=st1) (st':=st') (O:=O) (loc:=loc') (w:=W) (loc0:=loc) (w0:=w) (a:=a) (W:=[]) (ν:=ν) pre h3 p9 (fun n hn=>q9 h4 hn)
  (fun i m hi=>by
   rcases qM hi with⟨o,o',k1,k2,k3,k4⟩|k
   ·rw[k1]at k2;cases k2
    refine .inr ⟨?_,o,k1,k3⟩;have hl:i<ν.length:=by rw[<-pr hf.get];exact bG k1
    rw[List.getElem?_eq_getElem hl];exact congrArg some (Fi hk k1 k3 k4 (List.getElem?_eq_getElem hl))
   ·exact .inl k) g ⟨hsz,hdf,henv⟩ ht h1 hkeep hf
 exact⟨loc2,m1,m2.env,m3⟩
def TE(hok:lu P cx X){it:FuncId}(hit:uA P it)(heg:∀args w,(callFunc it args).run P w=.ok (.enter it args) w){O:aH}{st:St}{loc:Nat->Loc}{w:World}{a:Act}{K:Ex->St->VC}{g:Operand}{ps:Array Tmp}{asg body:Code}{p d:Nat}
  (r:St->lI)(hsh:yG ps.toList asg=some (p,d))(hsb:kE body=true)(hpN:p<cx.N)(qT:d<cx.N)(hA:fS cx (aA O st loc w) st a)(gd:Good cx.eT X (aA O st loc w))(hO:eX O w)
  (h:(TB cx it r g p d body st K).holds):(Code.rangeFunc g ps asg body).wpIn bd 3 P (QR cx X O K (aA O st loc w) a) a w:=by
 obtain⟨hps,id,ops,o,rfl,hops,hdst,hop,hgd⟩:=KC hsh;unfold TB at h;split at h
 case h_2=>exact h.elim
 rename_i f n1 n2 hev;split at h
 case h_2=>exact h.elim
 rename_i T1 bs T2 k hb h1 h2;simp only[af,cf]at hb;have hf:=bz hb.1;subst hf;have hne:n1≠n2:=fun e=>by have h3:=hb.2;subst e;rw[Nat.beq_refl]at h3;cases h3
 obtain⟨st1,hst1⟩:∃s,s=bA (bA st n1) n2:=⟨_,rfl⟩
 rw[<-hst1]at h;generalize UZ st1 (r st1)=an at h;unfold U0 at h;split at h
 case h_2=>exact h.elim
 rename_i ν0 _;obtain⟨⟨hk1,hk2,hlen⟩,hfit,hbd,hend⟩:=h;obtain⟨x0,hinv0,hx0,hf0⟩:=CL hfit;subst hx0;obtain⟨kN,hkN⟩:∃kN:Nat,kN=cc k:=⟨_,rfl⟩
 have hkk:(k:Int)=(kN:Int):=by rw[hkN];exact(ew (b7 (by decide) hk1)).symm
 rw[<-hkN]at hbd hend;have hHB:∀pre,an.inv pre->qS an ν0 st1 pre=true/\∀i,pre.length<eY bs.length kN->(vc cx [] body 0 (GF an ν0 st1 bs kN p d pre i) (rK an ν0 st1 K pre i)).holds:=by
  intro pre hp;have:=hbd pre hp;split at this
  ·rename_i e;exact⟨e,fun i hi=>this i hi⟩
  ·exact this.elim
 have hx:=bN hA.env g;rw[hev]at hx;obtain⟨hgv,hcap⟩:=hx;obtain⟨b1,vs1,hl1,hbs1,hheap1,hc1⟩:=(gd.obj n1 _ h1).2;obtain⟨b2,vs2,hl2,hbs2,hheap2,hc2⟩:=(gd.obj n2 _ h2).2;cases hc1 with
 |cons hv1 _ hr1=>
 cases hr1;cases hc2 with
 |cons hv2 _ hr2=>
 cases hr2;rename_i v1 _ v2 _;obtain⟨a0,cap,rfl,hcap1,hsome,hpart⟩:=TC hv1;obtain⟨rfl,_⟩:=cS.1 hv2;have hb1:b1<w.heap.size:=(Array.getElem?_eq_some_iff.1 hheap1).1;have hb2:b2<w.heap.size:=(Array.getElem?_eq_some_iff.1 hheap2).1;have hcell1:w.cell? ⟨b1,0,none⟩=some (.slice a0 bs.length cap):=by rw[cell_of_row w b1 _ _ _ (0,0) hheap1];rfl
 have hcell2:w.cell? ⟨b2,0,none⟩=some (.int .i64 kN):=by rw[cell_of_row w b2 _ _ _ (0,0) hheap2,<-hkk];rfl
 obtain⟨tr1,g1⟩:=mS (cx:=cx) gd n1;obtain⟨tr2,g2⟩:=mS (cx:=cx) g1 n2;rw[<-hst1]at tr2 g2;have trS:=tr1.trans tr2;have hlook:∀n oc,look st1.aF n=some oc->n≠n1/\n≠n2/\look st.aF n=some oc:=by
  intro n oc hn;rw[hst1]at hn;simp only[bA,lT]at hn;split at hn
  ·cases hn
  ·split at hn
   ·cases hn
   ·rename_i e1 e2;exact⟨fun e=>e2 e.symm,fun e=>e1 e.symm,hn⟩
 have hno1:∀{loc' W pre},Tr (aA O st1 loc w) (aA O (gL an ν0 st1 pre) loc' W)->¬(aA O (gL an ν0 st1 pre) loc' W).owns b1:=by
  intro loc' W pre t ho;rcases t.own b1 ho with⟨n,oc,k1,k2⟩|k
  ·obtain⟨e1,_,k3⟩:=hlook n oc k1
   exact e1 (gd.apart n n1 oc _ b1 k3 h1 k2 (by show b1∈((aA O st loc w).loc n1).bs;rw[hbs1];simp))
  ·exact absurd hb1 (bc.2 k)
 have hno2:∀{loc' W pre},Tr (aA O st1 loc w) (aA O (gL an ν0 st1 pre) loc' W)->¬(aA O (gL an ν0 st1 pre) loc' W).owns b2:=by
  intro loc' W pre t ho;rcases t.own b2 ho with⟨n,oc,k1,k2⟩|k
  ·obtain⟨_,e1,k3⟩:=hlook n oc k1
   exact e1 (gd.apart n n2 oc _ b2 k3 h2 k2 (by show b2∈((aA O st loc w).loc n2).bs;rw[hbs2];simp))
  ·exact absurd hb2 (bc.2 k)
 have hgbs:∀b∈X.D6,b<w.heap.size:=fun b hb=>X.GJ gd.kX.1 b hb
 have hpartW:∀{loc' W pre} (_:Tr (aA O st1 loc w) (aA O (gL an ν0 st1 pre) loc' W)) i,VR cx.eT LJ (dR bs kN i) (aA O (gL an ν0 st1 pre) loc' W).A W (kx a0 bs.length kN i):=fun t i=>
  VR.frame (hpart kN i) (trS.trans t).cell
 have hv0:mr [] a=a:=yH hA.defers;have hplainH:∀{pre},qS an ν0 st1 pre=true->ot (gL an ν0 st1 pre).aF=true:=fun hB=>by simp only[qS,af]at hB;exact hB.2.1
 have hO1:∀{W:World},w.heap.size<=W.heap.size->eX O W:=fun hs=>hO.tr hs
 refine wpIn_rangeFunc_ownG (F:=bd) (n:=3) rfl (by decide) (gf:=f) (lb:=#[.pointer (some ⟨b1,0,none⟩),.pointer (some ⟨b2,0,none⟩)]) (by rw[hgv];simp only[List.map];rw[hl1,hl2]) trivial heg
  (hit b1 b2 a0 bs.length cap kN w (dc.1 (by rw[<-hkk];exact hk1)) (dc.1 (by rw[<-hkk];exact hk2)) hlen hcap1 hsome hb1 hb2 hcell1 hcell2)
  (fun h k=>⟨k.1.trans h.1,k.2.trans h.2⟩)
  (fun W l o o' hl ho hc _=>⟨World.cell?_of_block (fu (by simp only;omega)),World.cell?_of_block (fu (by simp only;omega))⟩)
  (fw _ _) (fun x=>by rw[<-Array.length_toList (xs:=ps),hps];rfl)
  (fun pre W=>∃loc',an.inv pre/\qS an ν0 st1 pre=true/\Good cx.eT X (aA O (gL an ν0 st1 pre) loc' W)/\gD cx.eT (aA O (gL an ν0 st1 pre) loc' W) (gL an ν0 st1 pre).env a/\Tr (aA O st1 loc w) (aA O (gL an ν0 st1 pre) loc' W))
  (fun c pre W=>c=.ret/\∃st' loc',((∃j,pre=ba j)->(K .ret st').holds)/\ot st'.aF=true/\Good cx.eT X (aA O st' loc' W)/\gD cx.eT (aA O st' loc' W) st'.env a/\Tr (aA O st1 loc w) (aA O st' loc' W))
  ?_ ?_ ?_ (fun x=>(a.put (some p) (kx a0 bs.length kN x)).put (some d) (kx a0 bs.length kN x)) ?_ ?_ ?_ ?_
 ·rintro pre A B row ⟨loc',hi,hB,g',he',t'⟩ hg hr
  have bk:=sq.of hg hr;exact⟨loc',hi,hB,xQ g' bk (fun n oc hn=>mB (hplainH hB) hn) hgbs,Ba he' bk,DK t' bk (ak _)⟩
 ·rintro c pre A B row ⟨rfl,st',loc',hk,hpl,g',he',t'⟩ hg hr
  have bk:=sq.of hg hr;exact⟨rfl,st',loc',hk,hpl,xQ g' bk (fun n oc hn=>mB hpl hn) hgbs,Ba he' bk,DK t' bk (ak _)⟩
 ·have hB:=(hHB [] hinv0).1
  obtain⟨loc2,m1,m2,m3⟩:=CM (an:=an) (pre:=[]) g2 hA.size hA.defers (fun n v hv=>by
   rw[hst1]at hv;exact(hA.env n v hv).tr trS) (Tr.refl _) (fun n _ v hv=>⟨v,hv,jY v⟩) hf0 hB
  exact⟨loc2,hinv0,hB,m1,m2,m3⟩
 ·intro l x W K' hK'
  refine QA hops hdst hop hgd (fun _=>trivial) ?_;have e:({tmps:=(ps.zip #[kx a0 bs.length kN x]).foldl (fun t (p,v)=>t.setIfInBounds p v) a.tmps,defers:=[]}:Act)=a.put (some p) (kx a0 bs.length kN x):=by
   have:ps= #[p]:=by rw[<-fv (xs:=ps),hps]
   rw[this];refine Eq.trans ?_ (congrArg (fun z:Act=>z.put (some p) (kx a0 bs.length kN x)) hv0);rw[show(#[p]:Array Tmp).zip #[kx a0 bs.length kN x]= #[(p,kx a0 bs.length kN x)] by simp[Array.zip]];rfl
  rw[e];have e2:(a.put (some p) (kx a0 bs.length kN x)).eval (.tmp p)=kx a0 bs.length kN x:=by
   have hp':p<a.tmps.size:=by rw[hA.size];exact hpN
   simp[Act.put,Act.eval,ei,hp']
  rw[e2];exact hK'
 ·rintro l pre x W ⟨loc',hi,hB,g',he',t'⟩ hlt
  have hvc:=(hHB pre hi).2 x hlt;have hpv:=hpartW t' x;have hA1:fS cx (aA O (gL an ν0 st1 pre) loc' W) {gL an ν0 st1 pre with env:=(p,.s (.one (.d LJ (dR bs kN x)))) :: (gL an ν0 st1 pre).env} (a.put (some p) (kx a0 bs.length kN x)):=
   fS.put (st:=gL an ν0 st1 pre) ⟨hA.size,hA.defers,he'⟩ (Tr.refl _) rfl hpN hpv
  have hA2:fS cx (aA O (gL an ν0 st1 pre) loc' W) (GF an ν0 st1 bs kN p d pre x) ((a.put (some p) (kx a0 bs.length kN x)).put (some d) (kx a0 bs.length kN x)):=
   fS.put hA1 (Tr.refl _) rfl qT hpv
  have hrun:=xP (n:=3-1-1) (st:=GF an ν0 st1 bs kN p d pre x) hok (F:=bd.inRound l) (.inr ⟨l,rfl⟩) [] body 0 hsb hA2 g' (hO1 t'.size) hvc;rw[yH hA2.defers]at hrun;refine wpIn_mono hrun ?_;rintro e a2 W2 ⟨a',rfl,_,hq⟩;have keeps:∀{st2 loc2},Tr (aA O (gL an ν0 st1 pre) loc' W) (aA O st2 loc2 W2)->KeepsFrom w.heap.size W W2:=fun k3=>
   ⟨k3.size,fun k o hk hko ho=>(k3.block k (Array.getElem?_eq_some_iff.1 hko).1 (Fh g' (fun n oc hn=>mB (hplainH hB) hn) hko ho)).trans hko⟩
  cases e with
  |normal=>
   obtain⟨st2,loc2,k1,k2,k3,k4,k5⟩:=hq;obtain⟨x1,i2,hx1,hf1⟩:=CL k1;subst hx1;have hB2:=(hHB _ i2).1;have hnr:qK an.xR.keep an.xR.refs=true:=by simp only[qS,px,af]at hB;exact hB.1.2.2.2
   obtain⟨loc2,m1,m2,m3⟩:=CM (an:=an) (st':={st2 with env:=(gL an ν0 st1 pre).env}) (pre:=pre++[x]) k2 hA.size hA.defers (he'.tr k3) (t'.trans k3) (fun n hn v hv=>⟨v,TD (an:=an.xR) rfl hnr hn hv,jY v⟩) hf1 hB2;exact⟨keeps k3,⟨World.cell?_of_block (k3.block b1 (de hb1 t'.size) (hno1 t')),World.cell?_of_block (k3.block b2 (de hb2 t'.size) (hno2 t'))⟩,loc2,i2,hB2,m1,m2,m3⟩
  |ret=>
   obtain⟨st2,loc2,k1,k2,k3,k4,k5⟩:=hq;simp only[rK]at k1;split at k1
   ·rename_i hpl
    exact⟨keeps k3,rfl,_,loc2,fun⟨j,hj⟩=>k1 (by
     cases j with
     |zero=>simp at hj
     |succ j=>
      rw[cq]at hj;obtain⟨e1,e2⟩:=List.append_inj' hj rfl;simp at e2;rw[e2];exact e1),hpl,k2,he'.tr k3,t'.trans k3⟩
   ·exact k1.elim
  |exit i=>obtain⟨_,_,k1,_⟩:=hq;exact k1.elim
  |goto l=>exact hq.elim
  |panic c=>exact hq.elim
  |outgrown=>exact hq.elim
 ·rintro D xs W hD rfl ⟨loc',hi,hB,g',he',t'⟩ hm
  refine⟨D,_,loc',⟨?_,hend hi,g',trS.trans t',he',hD,hm,hplainH hB⟩⟩;rw[hA.defers];rfl
 ·rintro D c pre W hD hsp ⟨rfl,st',loc',hk,hpl,g',he',t'⟩ hm
  refine wpIn_ret ⟨D,st',loc',⟨?_,hk hsp,g',trS.trans t',he',hD,hm,hpl⟩⟩;rw[hA.defers];rfl
end
def LK(cx:Cx)(it:FuncId)(ra:List (Nat×(St->lI))):Code->St->(Ex->St->VC)->VC
 |.seq a b,st,K=>match kE b with
  |true=>LK cx it ra a st fun e st'=>match e with
   |.normal=>vc cx [] b 0 st' K
   |e=>K e st'
  |false=>match kE a with
   |true=>vc cx [] a 0 st fun e st'=>match e with
    |.normal=>LK cx it ra b st' K
    |e=>K e st'
   |false =>.ff
 |.block id (.rangeFunc g ps asg body),st,K=>match yG ps.toList asg,look ra id with
  |some (p,d),some r=>match Nat.blt p cx.N&&(Nat.blt d cx.N&&kE body)with
   |true=>TB cx it r g p d body st K
   |false =>.ff
  |_,_ =>.ff
 |_,_,_ =>.ff
def U1(cx:Cx)(it:FuncId)(ra:List (Nat×(St->lI)))(res:List ResultVar)(c:Code)(st:St)(K:List cO->St->VC):VC:=
 LK cx it ra c st fun e st'=>match e with
  |.exit _ =>.ff
  |_=>match ot st'.aF with
   |true=>qt cx st' res fun vs=>K vs st'
   |false =>.ff
def XO:Exit->Option Ex
 |.normal=>some .normal
 |.exit n=>some (.exit n)
 |.ret=>some .ret
 |_=>none
def uB(B:Nat)(S:bI)(ds:List Deferred):Prop:=ds=[]\/∃D,ds=[NV D]/\B<=D/\S.w.heap[D]?=some (.deferred (some []))/\¬S.owns D
section
variable{X:Ext}{P:Program}{cx:Cx}
def uB.tr{B:Nat}{S S':bI}{ds:List Deferred}(h:uB B S ds)(t:Tr S S'):uB B S' ds:=by
 rcases h with h|⟨D,h1,h2,h3,h4⟩
 ·exact .inl h
 ·have hlt:D<S.w.heap.size:=(Array.getElem?_eq_some_iff.1 h3).1
  exact .inr ⟨D,h1,h2,(t.block D hlt h4).trans h3,fun ho=>(t.own D ho).elim h4 fun h=>absurd hlt (bc.2 h)⟩
structure TF (cx:Cx) (X:Ext) (O:aH) (K:St->VC) (S:bI) (a':Act) (w':World) (ds:List Deferred) (a2:Act) (st':St) (loc':Nat->Loc):Prop where
 act:a'=mr ds a2
 rel:fS cx (aA O st' loc' w') st' a2
 vc:(K st').holds
 eP:Good cx.eT X (aA O st' loc' w')
 tr:Tr S (aA O st' loc' w')
 marks:uB S.w.heap.size (aA O st' loc' w') ds
def QE(cx:Cx)(X:Ext)(O:aH)(K:Ex->St->VC)(S:bI):Exit->Act->World->Prop:=fun e a' w'=>∃x,XO e=some x/\∃ds a2 st' loc',TF cx X O (K x) S a' w' ds a2 st' loc'
def NX{O:aH}{K:Ex->St->VC}{W:List Nat}{st1:St}{S0 S1:bI}{ds:List Deferred}(t:Tr S0 S1)(hm:uB S0.w.heap.size S1 ds){e:Exit}{a:Act}{w:World}(h:Ac ds (jA cx X O K W st1 S1) e a w):QE cx X O K S0 e a w:=by
 obtain⟨a',rfl,hb,hq⟩:=h;cases e with
 |normal=>obtain⟨st',loc',k1,k2,k3,k4,_⟩:=hq;exact⟨_,rfl,ds,a',st',loc',rfl,k4,k1,k2,t.trans k3,hm.tr k3⟩
 |exit i=>obtain⟨st',loc',k1,k2,k3,k4,_⟩:=hq;exact⟨_,rfl,ds,a',st',loc',rfl,k4,k1,k2,t.trans k3,hm.tr k3⟩
 |ret=>obtain⟨st',loc',k1,k2,k3,k4,_⟩:=hq;exact⟨_,rfl,ds,a',st',loc',rfl,k4,k1,k2,t.trans k3,hm.tr k3⟩
 |goto l=>exact hq.elim
 |panic c=>exact hq.elim
 |outgrown=>exact hq.elim
def QE.mono{O:aH}{K:Ex->St->VC}{S0 S1:bI}(t:Tr S0 S1){e:Exit}{a:Act}{w:World}(h:QE cx X O K S1 e a w):QE cx X O K S0 e a w:=by
 obtain⟨x,hx,ds,a2,st',loc',q⟩:=h;refine⟨x,hx,ds,a2,st',loc',q.act,q.rel,q.vc,q.eP,t.trans q.tr,?_⟩;rcases q.marks with h|⟨D,h1,h2,h3⟩
 ·exact .inl h
 ·exact .inr ⟨D,h1,b5 t.size h2,h3⟩
def QB(hok:lu P cx X){it:FuncId}(hit:uA P it)(heg:∀args w,(callFunc it args).run P w=.ok (.enter it args) w){O:aH}(ra:List (Nat×(St->lI))):∀(c:Code) {st:St} {loc:Nat->Loc} {w:World} {a:Act} {K:Ex->St->VC},
  fS cx (aA O st loc w) st a->Good cx.eT X (aA O st loc w)->eX O w->(LK cx it ra c st K).holds->c.wpIn bd 3 P (QE cx X O K (aA O st loc w)) a w:=by
 intro c;induction c with
 |seq c1 c2 ih1 ih2=>
  intro st loc w a K hA g hO h;simp only[LK]at h;split at h
  ·rename_i hs2
   refine wpIn_seq (wpIn_mono (ih1 hA g hO h) ?_);rintro e a1 w1 ⟨x,hx,ds,a2,st',loc',q⟩;cases e with
   |normal=>
    cases hx;obtain⟨rfl,q2,q3,q4,q5,q6⟩:=q;exact wpIn_mono (xP (n:=3) hok (F:=bd) (.inl rfl) ds c2 0 hs2 q2 q4 (hO.tr q5.size) q3) fun e a w hq=>NX q5 q6 hq
   |exit i=>cases hx;exact⟨_,rfl,ds,a2,st',loc',q⟩
   |ret=>cases hx;exact⟨_,rfl,ds,a2,st',loc',q⟩
   |goto l=>cases hx
   |panic c=>cases hx
   |outgrown=>cases hx
  ·split at h
   ·rename_i hs1
    have hr:=xP (n:=3) hok (F:=bd) (.inl rfl) [] c1 0 hs1 hA g hO h;rw[yH hA.defers]at hr;refine wpIn_seq (wpIn_mono hr ?_);rintro e a1 w1 hq;cases e with
    |normal=>
     obtain⟨a',rfl,hb,st',loc',k1,k2,k3,k4,_⟩:=hq;show c2.wpIn _ _ _ _ (mr [] a') w1;rw[yH hb];exact wpIn_mono (ih2 k4 k2 (hO.tr k3.size) k1) fun e a w hq=>hq.mono k3
    |exit i=>exact NX (K:=K) (Tr.refl _) (.inl rfl) hq
    |ret=>exact NX (K:=K) (Tr.refl _) (.inl rfl) hq
    |goto l=>exact hq.choose_spec.2.2.elim
    |panic c=>exact hq.choose_spec.2.2.elim
    |outgrown=>exact hq.choose_spec.2.2.elim
   ·exact h.elim
 |block id b ih=>
  intro st loc w a K hA g hO h;cases b with
  |rangeFunc gf ps asg body=>
   simp only[LK]at h;split at h
   ·rename_i p d r hsh _
    split at h
    ·rename_i hb
     simp only[af]at hb;refine wpIn_block (wpIn_mono (TE hok hit heg r hsh hb.2.2 (mg hb.1) (mg hb.2.1) hA g hO h) ?_);have fin:∀{x:Ex} {a':Act} {w':World},(∃D st' loc',NW cx X O (K x) (aA O st loc w) a a' w' D st' loc')->∃ds a2 st' loc',TF cx X O (K x) (aA O st loc w) a' w' ds a2 st' loc':=by
      rintro x a' w' ⟨D,st',loc',q⟩;exact⟨[NV D],a,st',loc',q.act,⟨hA.size,hA.defers,q.env⟩,q.vc,q.eP,q.tr,.inr ⟨D,rfl,q.XT,q.mark,Fh q.eP (fun n oc hn=>mB q.plain hn) q.mark rfl⟩⟩
     intro e a' w' hq;cases e with
     |normal=>exact⟨_,rfl,fin hq⟩
     |ret=>exact⟨_,rfl,fin hq⟩
     |exit i=>exact hq.elim
     |goto l=>exact hq.elim
     |panic c=>exact hq.elim
     |outgrown=>exact hq.elim
    ·exact h.elim
   ·exact h.elim
  |_=>exact h.elim
 |_=>intro st loc w a K hA g hO h;exact h.elim
def QC(hok:TyOK P cx){O:aH}{st:St}{loc:Nat->Loc}{w:World}{a:Act}(g:Good cx.eT X (aA O st loc w))(he:gD cx.eT (aA O st loc w) st.env a){fn:Func}{K:List cO->VC}(h:(qt cx st fn.results.toList K).holds) :
  ∃vs us,(K vs).holds/\cQ cx.eT (aA O st loc w) vs us/\(results fn a.tmps).run P w=.ok (vh us) w:=by
 obtain⟨vs,us,m1,m2,m3⟩:=zA (P:=P) hok g he h;refine⟨vs,us,m1,m2,?_⟩;have hm:(fn.results.mapM (r9 a.tmps):Sem (Array Value)).run P w=.ok us.toArray w:=by
  rw[<-fv (xs:=fn.results),List.mapM_toArray,Sem.run_map,m3];rfl
 have he:results fn a.tmps=(do
   let xs <-fn.results.mapM (r9 a.tmps)
   return if h:xs.size=1 then xs[0]else .tuple xs):=by
  unfold results;congr 1
 rw[he,Sem.run_bind,hm];simp only[ep,Sem.run_pure]
 match us with
 |[]=>rfl
 |[u]=>rfl
 |_ :: _ :: _=>rfl
def IG(hok:lu P cx X){it:FuncId}(hit:uA P it)(heg:∀args w,(callFunc it args).run P w=.ok (.enter it args) w){f:FuncId}{fn:Func}{c:Code}(hf:P.funcs[f]?=some fn)(hb:fn.body=some c)(hN:cx.N=fn.ntmps)(ra:List (Nat×(St->lI))){O:aH}{st:St}{loc:Nat->Loc}{w:World}
  {args:Array Value}{K:List cO->St->VC}(hsz:args.size<=fn.ntmps)(g:Good cx.eT X (aA O st loc w))(hO:eX O w)
  (henv:∀t sv,look st.env t=some sv->∃v,args[t]?=some v/\dO cx.eT (aA O st loc w) sv v)
  (h:(U1 cx it ra fn.results.toList c st K).holds) :
  Calls P f args w fun e w'=>∃vs us st' loc',e=.returned (vh us)/\(K vs st').holds/\cQ cx.eT (aA O st' loc' w') vs us/\Good cx.eT X (aA O st' loc' w')/\Tr (aA O st loc w) (aA O st' loc' w'):=by
 refine callsIn_wide.1 (callsIn_of_wp_marks (n:=3) hf hb trivial ?_);have hA:fS cx (aA O st loc w) st {tmps:=args++Array.replicate (fn.ntmps-args.size) undef,defers:=[]}:=by
  refine⟨by simp[hN];omega,rfl,fun t sv ht =>?_⟩;obtain⟨v,hv,hr⟩:=henv t sv ht;have hlt:t<args.size:=by
   rcases bg t args.size with hh|hh
   ·exact hh
   ·rw[Array.getElem?_eq_none hh]at hv;cases hv
  rw[ei,Array.getElem?_append,if_pos hlt,hv];exact hr
 refine wpIn_mono (QB hok hit heg ra c hA g hO h) ?_;have fin:∀{a':Act} {w':World} {ds:List Deferred} {a2:Act} {st':St} {loc':Nat->Loc},TF cx X O (fun st'=>match ot st'.aF with
   |true=>qt cx st' fn.results.toList fun vs=>K vs st'
   |false =>.ff) (aA O st loc w) a' w' ds a2 st' loc'->
   LeavesInM bd 3 P fn a'.tmps (fun e w'=>∃vs us st' loc',e=.returned (vh us)/\(K vs st').holds/\cQ cx.eT (aA O st' loc' w') vs us/\Good cx.eT X (aA O st' loc' w')/\Tr (aA O st loc w) (aA O st' loc' w')) a'.defers .returning w':=by
  rintro a' w' ds a2 st' loc' ⟨rfl,q2,q3,q4,q5,q6⟩;split at q3
  case h_2=>exact q3.elim
  rename_i hpl;rcases q6 with rfl|⟨D,rfl,k1,k2,k3⟩
  ·obtain⟨vs,us,m1,m2,m3⟩:=QC hok.toTyOK q4 q2.env q3
   exact⟨_,m3,vs,us,st',loc',rfl,m1,m2,q4,q5⟩
  ·have bk:sq w.heap.size w' (w'.putObj D (.deferred none)):=sq.of (grownBy_putObj' w' D _) (fun r e=>by cases e;exact⟨k1,_,k2,rfl⟩)
   have g':Good cx.eT X (aA O st' loc' (w'.putObj D (.deferred none))):=xQ q4 bk (fun n oc hn=>mB hpl hn) (fun b hb=>X.GJ g.kX.1 b hb);have t':Tr (aA O st loc w) (aA O st' loc' (w'.putObj D (.deferred none))):=DK q5 bk (ak _);have e':gD cx.eT (aA O st' loc' (w'.putObj D (.deferred none))) st'.env a2:=Ba q2.env bk;obtain⟨vs,us,m1,m2,m3⟩:=QC hok.toTyOK g' e' q3;refine⟨by simp,.inl ⟨D,_,rfl,run_takeDeferred k2,?_⟩⟩;exact⟨_,m3,vs,us,st',loc',rfl,m1,m2,g',t'⟩
 rintro e a' w' ⟨x,hx,ds,a2,st',loc',q⟩;cases e with
 |normal=>cases hx;exact fin q
 |ret=>cases hx;exact fin q
 |exit i=>cases hx;exact q.vc.elim
 |goto l=>cases hx
 |panic c=>cases hx
 |outgrown=>cases hx
variable{aN:List Ob}{args:List Cl}
def DL(B:Cx)(Γ:List (FuncId×(Bool×aT)))(it:FuncId)(fn:Func)(ra:List (Nat×(St->lI)))(aN:List Ob)(args:List Cl)(alts:List (Alt aN args))(a:CD args)(x:PD aN):VC:=
 U1 (q8 B Γ fn.ntmps) it ra fn.results.toList (codeOf fn) (kD aN args a x) fun vs st'=>sV a x vs st' alts
def DM{B:Cx}{Γ:List (FuncId×(Bool×aT))}(hok:bP P B X Γ){it:FuncId}(hit:uA P it){fi:Func}(hfi:P.funcs[it]?=some fi)(hgi:py fi 3=true){f:FuncId}{fn:Func}(hf:P.funcs[f]?=some fn)(hg:py fn args.length=true)(ra:CD args->PD aN->List (Nat×(St->lI)))
  {pre:CD args->PD aN->Prop}{alts:List (Alt aN args)}(h:∀a x,hU args a->pre a x->(DL B Γ it fn (ra a x) aN args alts a x).holds) :
  bX P B.eT X f false (aX aN args pre alts):=by
 simp only[py,af,cf]at hg hgi;obtain⟨⟨h1,h2⟩,h3⟩:=hg;obtain⟨c,hc⟩:=dj.1 h1;have heg:∀args w,(callFunc it args).run P w=.ok (.enter it args) w:=fun args w=>wK hfi (by obtain⟨ci,hci⟩:=dj.1 hgi.1.1;rw[hci];rfl) hgi.1.2 args w
 refine⟨⟨fn,hf,by rw[hc];rfl,h2⟩,fun O st loc w asg vs K hK g hO ha =>?_⟩;unfold aX at hK;obtain⟨t1,g1,e1,k1⟩:=vo args asg g;simp only at hK;split at hK
 case h_2=>exact hK.elim
 rename_i ν hν;split at hK
 case h_2=>exact hK.elim
 rename_i a x hnd hga hx;obtain⟨hp,hpre,hK⟩:=AI hK;obtain⟨hp1,hp2⟩:=jo.1 hp;refine(ED (f:=f) (B:=B) (pre:=pre) g1 hO (k1 vs ha) hnd hga hx hp1 hp2 hpre hK fun hwf O' loc0 g0 hOin' hargs hlen =>?_).mono ?_
 ·have hcode:codeOf fn=c:=by unfold codeOf;rw[hc];rfl
  have hvc:=h a x hwf hpre;unfold DL at hvc;rw[hcode]at hvc;exact IG (X:=X) (hok fn.ntmps) hit heg hf hc (by rfl) (ra a x) (O:=O') (loc:=loc0) (w:=w) (args:=vs.toArray) (st:=kD aN args a x)
   (by rw[di,hlen];exact en h3) g0 hOin'
   (fun t sv ht=>by
    obtain⟨_,v,k1,k2⟩:=tE 0 hargs t sv ht;exact⟨v,by simpa using k1,k2⟩) hvc
 ·rintro e w' ⟨v,sv,st',loc',q1,q2,q3,q4,q5,q6⟩
  exact⟨v,sv,st',loc',q1,q2,q3.trans e1,(fun hq=>by cases hq),q4,t1.trans q5,q6⟩
end
end Go.Vg

