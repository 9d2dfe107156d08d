/- A part of the proof that the law TopFreshCard holds of the given program: facts that are used there. -/
import Derived.Test.YtgokjhhcfemnhadGreatDoorPart1
import Derived.Deep.Heap
import Derived.Room.AppendFits
import Derived.Lib.UnsafeStr
import Derived.Lib.SplitLaws
import Derived.Lib.ItoaNum
import Derived.Lib.AtoiAll
import Derived.RangeFuncWrites
import Derived.RangeFuncCalls
import Derived.OrdersIn
import Derived.TacticsIn
import Derived.RangeFuncBox
set_option linter.unusedSimpArgs false
set_option linter.unusedVariables false
set_option linter.defProp false
noncomputable section
open True renaming intro->aa
open Go.Lib renaming itoa->ab,trimSuffix->ae,hasPrefix->av,trimPrefix->ax,decDigits->ay,index->bm,parseUint10->bo,atoiAll->b6,splitK->cn,strCells->ct,strCells_length->dk
open Bool renaming and_eq_true->af,or_eq_true->bq,not_eq_true'->cf,or_eq_false_iff->du,not_eq_true->fh,and_false->fm
open List renaming mem_cons->ag,take->ah,drop->ai,map_cons->aj,mem_append->au,length_append->aw,range->ba,replicate->bb,mem_map->bf,length_take->bh,length->bj,mem_of_getElem?->br,mem_map_of_mem->bw,flatMap_cons->bx,drop_eq_nil_of_le->b3,mem_of_mem_take->b8,all_eq_true->ca,take_length->cb,mem_cons_of_mem->cd,take_of_length_le->cg,nodup_cons->ch,length_cons->cj,filter_cons->ck,isPrefixOf->cm,range_succ->cq,append_assoc->cu,any_eq_true->cw,any_eq_false->cy,all_eq_false->c6,pairwise_cons->c8,length_singleton->da,mem_singleton->db,size_toArray->di,map_map->dn,getElem_of_mem->dw,take_add_one->dx,length_map->ec,cons_append->ee,drop_zero->ef,mem_append_left->eg,mem_filterMap->eh,mem_append_right->ej,mem_range->et,drop_eq_getElem_cons->eu,nil_append->ey,mem_filter->e8,nodup_append->fb,take_succ_cons->fc,take_zero->fk,length_nil->fl,mem_flatMap->fo
open Nat renaming le_refl->ak,zero_le->ar,min->a8,not_lt->bc,lt_or_ge->bg,beq->bp,eq_of_beq_eq_true->bz,le_trans->b5,min_eq_left->c7,lt_of_lt_of_le->de,zero_add->dh,le_of_ble_eq_true->en,strongRecOn->fe,min_eq_right->fp
open Int renaming not_lt->ao,le_refl->az,le_trans->b7,toNat->cc,not_le->cp,ofNat_le->dc,ofNat_inj->dd,toNat_natCast->dv,toNat_of_nonneg->ew,tmod_eq_emod_of_nonneg->ez,le_sub_one_of_lt->fg
open Classical renaming byContradiction->aq,choose->b9,choose_spec->cz
open Go.IntKind renaming u64->a7,u8->dm,min->dp,max->dq,signed->dr,bits->dt,wrap->dT
open Go.Fence renaming wide->bd
open Go.Value renaming int->bt,ownBlock->ft
open Go.Op renaming bytesLess->bu
open BitVec renaming ofInt->b4
open Go.Oper renaming uponIn->cr,semAt_eq->fq
open Option.some renaming injEq->df,inj->dy
open Option renaming isSome_iff_exists->dj,bind_some->fj
open UInt8 renaming lt_iff_toNat_lt->dz,ofNat->ed,toNat_ofNat'->er
open Array renaming getD_eq_getD_getElem?->ei,toArray_toList->fv
open Go.World renaming block_lt_of_cell?->ek,putObj_heap_other->fu
open Go.Builtin renaming append_->eo
open Go.Result renaming andThen_ok->ep
open List.Perm renaming swap->e9
open Go.Region renaming Mode->fs
open Go.RowKit.Below renaming refl->fw
namespace Go.Vg
open Go.RowKit
def kx:List Cl->St->List cP->List cP×St
 |.d _ :: r,st,v :: vs=>match AD st v with
  |(v',st1)=>match kx r st1 vs with
   |(vs',st2)=>(v' :: vs',st2)
 |.obj _ :: r,st,v :: vs=>match kx r st vs with
  |(vs',st2)=>(v :: vs',st2)
 |.gX :: r,st,v :: vs=>match kx r st vs with
  |(vs',st2)=>(v :: vs',st2)
 |_,st,vs=>(vs,st)
def qB:List (Nat×OC)->List Nat->List (Nat×OC)
 |l,[]=>l
 |l,n :: r=>qB (rH l n) r
def mH:List Ob->List Ob->List Nat->Nat->List Nat
 |o :: os,o' :: os',n :: ns,b=>(match ld o o' with|true=>n|false=>b) :: mH os os' ns (b+1)
 |_,_ :: os',_,b=>b :: mH [] os' [] (b+1)
 |_,[],_,_=>[]
def Dh:Nat->List Ob->List Ob->List (Nat×Nat)
 |k,o :: os,o' :: os'=>match ld o o' with
  |true=>(k,k) :: Dh (k+1) os os'
  |false=>Dh (k+1) os os'
 |_,_,_=>[]
def uU:Nat->List Ob->List Ob->List Nat->Bool
 |k,o :: os,o' :: os',n :: ns=>(match ld o o' with|true=>bp n k|false=>true)&&uU (k+1) os os' ns
 |_,_,_,_=>true
structure Alt (aO:List Ob) (args:List Cl):Type 1 where
 cv:Bool:=false
 bN:List Ob
 res:List Cl
 ok:CD args->PD aO->Prop:=fun _ _=>True
 out:CD args->PD aO->PD bN
 ret:CD args->PD aO->CD res
section
variable{aO:List Ob}{args:List Cl}
def Ge(al:Alt aO args)(a:CD args)(x:PD aO)(ν:List Nat)(st:St)(K:SV->St->VC):VC:=
 match nodupB (mH aO al.bN ν st.next)&&jV (st.next+al.bN.length) (mH aO al.bN ν st.next)with
 |true =>.imp (al.ok a x) (K (sF (wA (iu al.bN (al.out a x) (mH aO al.bN ν st.next)) al.res (al.ret a x)))
   {env:=st.env,aF:=lQ (iu al.bN (al.out a x) (mH aO al.bN ν st.next)) al.bN (al.out a x) (mH aO al.bN ν st.next)++qB st.aF ν,next:=st.next+al.bN.length})
 |false =>.ff
def wM(a:CD args)(x:PD aO)(ν:List Nat)(st:St)(K:SV->St->VC):List (Alt aO args)->VC
 |[] =>.leaf True
 |[al]=>Ge al a x ν st K
 |al :: al2 :: r =>.both (Ge al a x ν st K) (wM a x ν st K (al2 :: r))
def aZ(aO:List Ob)(args:List Cl)(pre:CD args->PD aO->Prop)(alts:List (Alt aO args)):aU:=fun Xp st K=>
 match kx args st Xp with
 |(Xp,st)=>match Ub aO args Xp st.aF []with
  |some ν=>match nodupB ν,lR false st.aF aO ν args Xp,eD false st.aF aO ν aO ν with
   |true,some a,some x=>R3 (mg aO x args Xp++iR aO x st.aF aO ν) (.and (pre a x) (wM a x ν st K alts))
   |_,_,_ =>.ff
  |none =>.ff
def ky(aO:List Ob)(args:List Cl)(a:CD args)(x:PD aO):St:=
 {env:=pR 0 (wA (iu aO x (upto 0 aO.length)) args a),aF:=lQ (iu aO x (upto 0 aO.length)) aO x (upto 0 aO.length),next:=aO.length}
def sG(a:CD args)(x:PD aO)(vs:List cP)(st:St):List (Alt aO args)->VC
 |[] =>.ff
 |al :: r=>match kx al.res st vs with
  |(vs',st')=>match Ub al.bN al.res vs' st'.aF (Dh 0 aO al.bN)with
   |some ν=>match nodupB ν&&(uU 0 aO al.bN ν&&(!al.cv || (sA aO&&(gD al.bN&&jG al.res)))),lR al.cv st'.aF al.bN ν al.res vs',eD al.cv st'.aF al.bN ν al.bN ν with
    |true,some b,some y =>.leaf (G0 (mg al.bN y al.res vs'++iR al.bN y st'.aF al.bN ν++[al.ok a x/\y=al.out a x/\b=al.ret a x]))
    |_,_,_=>sG a x vs st r
   |none=>sG a x vs st r
def cY(B:Cx)(Γ:List (FuncId×(Bool×aU)))(fn:Func)(anns:dY)(aO:List Ob)(args:List Cl)(alts:List (Alt aO args))(a:CD args)(x:PD aO):VC:=
 Mn (qR B Γ fn.ntmps) anns fn.results.toList (codeOf fn) (ky aO args a x) fun vs st'=>sG a x vs st' alts
def gV:(cls:List Cl)->CD cls->Prop
 |[],_=>True
 |.d t :: r,x=>wf t x.1/\gV r x.2
 |.obj _ :: r,x=>gV r x
 |.gX :: r,x=>gV r x
end
section
variable{eT:TypeId}{X:Ext}
def qS{k:Nat}:∀{l:List Nat} {n:Nat},jV k l=true->n∈l->n<k
 |[],_,_,h=>by simp at h
 |m :: r,n,h,hn=>by
  simp only[jV,af]at h;rcases ag.1 hn with e|hn
  ·rw[e];exact mf h.1
  ·exact qS h.2 hn
def mA(m:Nat):∀(ns:List Nat) (l:List (Nat×OC)),look (qB l ns) m=if m∈ns then none else look l m
 |[],l=>by simp[qB]
 |n :: r,l=>by
  simp only[qB];rw[mA m r,lP];by_cases h1:m∈r
  ·simp[h1]
  ·by_cases h2:n=m
   ·subst h2;simp
   ·have:¬m=n:=fun e=>h2 e.symm
    simp[h1,h2,this]
def qC:∀{aO bN:List Ob} {ν:List Nat} {b i n:Nat},(mH aO bN ν b)[i]?=some n->
  (∃o o',aO[i]?=some o/\bN[i]?=some o'/\ld o o'=true/\ν[i]?=some n)\/b<=n
 |aO,[],ν,b,i,n,h=>by
  cases aO <;> cases ν <;> simp[mH]at h
 |[],o' :: os',ν,b,i,n,h=>by
  simp only[mH]at h;cases i with
  |zero=>simp at h;exact .inr (by omega)
  |succ i=>
   rcases qC (aO:=[]) (ν:=[]) (by simpa using h)with⟨o,_,h1,_⟩|h1
   ·simp at h1
   ·exact .inr (by omega)
 |o :: os,o' :: os',[],b,i,n,h=>by
  simp only[mH]at h;cases i with
  |zero=>simp at h;exact .inr (by omega)
  |succ i=>
   rcases qC (aO:=[]) (ν:=[]) (by simpa using h)with⟨o,_,h1,_⟩|h1
   ·simp at h1
   ·exact .inr (by omega)
 |o :: os,o' :: os',n0 :: ns,b,i,n,h=>by
  simp only[mH]at h;cases i with
  |zero=>
   simp only[List.getElem?_cons_zero,df]at h;split at h
   ·rename_i hk;exact .inl ⟨o,o',rfl,rfl,hk,by simp[h]⟩
   ·exact .inr (by omega)
  |succ i=>
   rcases qC (by simpa using h)with⟨a,a',h1,h2,h3⟩|h1
   ·exact .inl ⟨a,a',by simpa using h1,by simpa using h2,by simpa using h3⟩
   ·exact .inr (by omega)
def pS:∀{aO bN:List Ob} {ν:List Nat} {b:Nat},(mH aO bN ν b).length=bN.length
 |aO,[],ν,b=>by cases aO <;> cases ν <;> rfl
 |[],o' :: os',ν,b=>by simp[mH,pS]
 |o :: os,o' :: os',[],b=>by simp[mH,pS]
 |o :: os,o' :: os',n0 :: ns,b=>by simp[mH,pS]
def BX:∀{aO bN:List Ob} {ν:List Nat} {k i n:Nat} {o o':Ob},uU k aO bN ν=true->aO[i]?=some o->bN[i]?=some o'->ld o o'=true->ν[i]?=some n->n=k+i
 |[],_,_,_,_,_,_,_,_,h,_,_,_=>by simp at h
 |_ :: _,[],_,_,_,_,_,_,_,_,h,_,_=>by simp at h
 |_ :: _,_ :: _,[],_,_,_,_,_,_,_,_,_,h=>by simp at h
 |a :: os,a' :: os',m :: ns,k,0,n,o,o',h,h1,h2,h3,h4=>by
  simp at h1 h2 h4;subst h1;subst h2;subst h4;simp only[uU,h3,af]at h;have:=bz h.1;omega
 |a :: os,a' :: os',m :: ns,k,i+1,n,o,o',h,h1,h2,h3,h4=>by
  simp only[uU,af]at h;have:=BX h.2 (by simpa using h1) (by simpa using h2) h3 (by simpa using h4);omega
def Ei:∀{l:List Ob} {o:Ob} {t:Ty},sA l=true->o∈l->o≠.tok t
 |[],_,_,_,h=>by simp at h
 |a :: r,o,t,h,ho=>by
  rcases ag.1 ho with e|ho
  ·subst e;intro e;subst e;simp[sA]at h
  ·exact Ei (by cases a <;> simp_all [sA]) ho
def yl{S:bI}{F:Nat->Value->Prop}:∀{cls:List Cl} {x:CD cls} {vs:List Value},s6 eT S F cls x vs->gV cls x
 |[],_,_,_=>trivial
 |.d t :: r,x,v :: vs,h=>⟨h.1.wf,yl h.2⟩
 |.obj k :: r,x,v :: vs,h=>yl (cls:=r) h.2
 |.gX :: r,x,v :: vs,h=>yl (cls:=r) h.2
def uV{S:bI}{F:Nat->Value->Prop}:∀{cls:List Cl} {x:CD cls} {vs:List Value},s6 eT S F cls x vs->vs.length=cls.length
 |[],_,_,h=>by rw[show _=[]from h];rfl
 |.d t :: r,x,v :: vs,h=>by simp[uV h.2]
 |.obj k :: r,x,v :: vs,h=>by simp[uV (cls:=r) h.2]
 |.gX :: r,x,v :: vs,h=>by simp[uV (cls:=r) h.2]
def uW{O:aI}{loc:Nat->Loc}{w:World}:∀(cls:List Cl) (xs:List cP) {st:St},Good eT X (aA O st loc w)->
  Tr (aA O st loc w) (aA O (kx cls st xs).2 loc w)/\Good eT X (aA O (kx cls st xs).2 loc w)/\(kx cls st xs).2.env=st.env/\
   ∀vs,cR eT (aA O st loc w) xs vs->cR eT (aA O (kx cls st xs).2 loc w) (kx cls st xs).1 vs:=by
 intro cls;induction cls with
 |nil=>intro xs st g;exact⟨Tr.refl _,g,rfl,fun vs h=>h⟩
 |cons cl r ih=>
  intro xs st g;cases xs with
  |nil=>cases cl <;> exact⟨Tr.refl _,g,rfl,fun vs h=>h⟩
  |cons x xs=>
   cases cl with
   |d t=>
    have g':Good (Cx.mk eT [] [] [] 0 [] [] [] false [] []).eT X (aA O st loc w):=g;obtain⟨t1,g1,e1,k1⟩:=uT g' x;obtain⟨t2,g2,e2,k2⟩:=ih xs g1;refine⟨t1.trans t2,g2,e2.trans e1,fun vs h =>?_⟩;cases h with
    |cons h1 h3=>exact .cons ((k1 _ h1).tr t2) (k2 _ (h3.tr t1))
   |obj k=>
    obtain⟨t2,g2,e2,k2⟩:=ih xs g;refine⟨t2,g2,e2,fun vs h =>?_⟩;cases h with
    |cons h1 h3=>exact .cons (h1.tr t2) (k2 _ h3)
   |gX=>
    obtain⟨t2,g2,e2,k2⟩:=ih xs g;refine⟨t2,g2,e2,fun vs h =>?_⟩;cases h with
    |cons h1 h3=>exact .cons (h1.tr t2) (k2 _ h3)
end
section
variable{X:Ext}{P:Program}{aO:List Ob}{args:List Cl}
def BY{a:CD args}{x:PD aO}{ν:List Nat}{st:St}{K:SV->St->VC}:∀{alts:List (Alt aO args)},(wM a x ν st K alts).holds->∀al∈alts,(Ge al a x ν st K).holds
 |[],_,al,h=>by simp at h
 |[al0],h,al,ha=>by simp at ha;subst ha;exact h
 |al0 :: al1 :: r,h,al,ha=>by
  rcases ag.1 ha with e|ha
  ·subst e;exact h.1
  ·exact BY h.2 al ha
def Ej{a:CD args}{x:PD aO}{vs:List cP}{st:St}:∀{alts:List (Alt aO args)},(sG a x vs st alts).holds->∃al∈alts,∃ν,
  nodupB ν=true/\uU 0 aO al.bN ν=true/\(al.cv=false\/(sA aO=true/\gD al.bN=true/\jG al.res=true))/\al.ok a x/\
  lR al.cv (kx al.res st vs).2.aF al.bN ν al.res (kx al.res st vs).1=some (al.ret a x)/\eD al.cv (kx al.res st vs).2.aF al.bN ν al.bN ν=some (al.out a x)/\
  (∀p∈mg al.bN (al.out a x) al.res (kx al.res st vs).1,p)/\(∀p∈iR al.bN (al.out a x) (kx al.res st vs).2.aF al.bN ν,p)
 |[],h=>h.elim
 |al :: r,h=>by
  have rest:(sG a x vs st r).holds->∃al'∈al :: r,∃ν,
    nodupB ν=true/\uU 0 aO al'.bN ν=true/\(al'.cv=false\/(sA aO=true/\gD al'.bN=true/\jG al'.res=true))/\al'.ok a x/\
    lR al'.cv (kx al'.res st vs).2.aF al'.bN ν al'.res (kx al'.res st vs).1=some (al'.ret a x)/\eD al'.cv (kx al'.res st vs).2.aF al'.bN ν al'.bN ν=some (al'.out a x)/\
    (∀p∈mg al'.bN (al'.out a x) al'.res (kx al'.res st vs).1,p)/\(∀p∈iR al'.bN (al'.out a x) (kx al'.res st vs).2.aF al'.bN ν,p):=fun h=>by
   obtain⟨al',h1,h2⟩:=Ej h;exact⟨al',by simp[h1],h2⟩
  simp only[sG]at h;split at h
  ·rename_i ν hν
   split at h
   ·rename_i b y hc hb hy
    simp only[af,bq,cf]at hc;obtain⟨h1,h2,h3⟩:=hc;have hall:=uJ h;have k3:al.ok a x/\y=al.out a x/\b=al.ret a x:=hall _ (ej _ (by simp));obtain⟨k4,k5,k6⟩:=k3;subst k5;subst k6;obtain⟨k1,_⟩:=jh.1 hall;obtain⟨k1,k2⟩:=jh.1 k1;exact⟨al,by simp,ν,h1,h2,h3,k4,hb,hy,k1,k2⟩
   ·exact rest h
  ·exact rest h
def Ek{B:Cx}{f:FuncId}{pre:CD args->PD aO->Prop}{alts:List (Alt aO args)}
  {O:aI}{st:St}{loc:Nat->Loc}{w:World}{Xp:List cP}{vs:List Value}{K:SV->St->VC}(g:Good B.eT X (aA O st loc w))(hO:eS O w)(ha:cR B.eT (aA O st loc w) Xp vs)
  {ν:List Nat}{a:CD args}{x:PD aO}(hnd:nodupB ν=true)(hga:lR false st.aF aO ν args Xp=some a)(hx:eD false st.aF aO ν aO ν=some x)
  (hp1:∀p∈mg aO x args Xp,p)(hp2:∀p∈iR aO x st.aF aO ν,p)(hpre:pre a x)(hK:(wM a x ν st K alts).holds)
  (hcall:gV args a->∀(O':aI) (loc0:Nat->Loc),Good B.eT X (aA O' (ky aO args a x) loc0 w)->eS O' w->cR B.eT (aA O' (ky aO args a x) loc0 w) (wA (iu aO x (upto 0 aO.length)) args a) vs->vs.length=args.length->
   Calls P f vs.toArray w fun e w'=>∃rs us' st' locE,e=.returned (uS us')/\(sG a x rs st' alts).holds/\cR B.eT (aA O' st' locE w') rs us'/\Good B.eT X (aA O' st' locE w')/\Tr (aA O' (ky aO args a x) loc0 w) (aA O' st' locE w')) :
  Calls P f vs.toArray w fun e w'=>∃v sv st' loc',e=.returned v/\(K sv st').holds/\st'.env=st.env/\Good B.eT X (aA O st' loc' w')/\
   Tr (aA O st loc w) (aA O st' loc' w')/\dI B.eT (aA O st' loc' w') sv v:=by
 have hvals:=D4 g hx hga ha hp1;have hobsl:=pf hx
 let us:=upto 0 aO.length
 have hul:ν.length=us.length:=by rw[uK];exact hobsl.symm
 let O':aI:=fun b off=>O b off\/∃n oc,look st.aF n=some oc/\n∉ν/\b∈(loc n).bs/\oc.lo<=off
 let st0:=ky aO args a x
 have hOin':eS O' w:=by
  rintro b off (h|⟨n,oc,h1,_,h2,_⟩)
  ·exact hO b off h
  ·exact(g.obj n oc h1).2.inside b h2
 have hlo:∀n∈ν,∀oc,look st.aF n=some oc->sA aO=true->oc.lo=0:=by
  intro n hn oc h1 h2;obtain⟨o,oc',y,k1,k2,k3⟩:=mz hx hn;rw[h1]at k2;cases k2;have:=(lH k3 (fun _ =>.any)).2.2.2 (fun t=>Ei h2 k1) rfl;cases oc <;> first|rfl|exact(this _ _ rfl).elim
 have hν:∀n∈ν,∃oc,look st.aF n=some oc:=fun n hn=>let⟨_,oc,_,_,k,_⟩:=mz hx hn;⟨oc,k⟩
 let loc0:=fH us (ν.map loc) loc
 have hf0:∀k oc,look st0.aF k=some oc->∃(i n:Nat) (o:Ob) (y:OD o) (oc0:OC),ν[i]?=some n/\us[i]?=some k/\aO[i]?=some o/\look st.aF n=some oc0/\jR false st.aF aO ν o oc0=some y/\oc=qQ (iu aO x us) o y/\loc0 k=loc n:=by
  intro k oc hk;obtain⟨i,n,o,y,oc0,k1,k2,k3,k4,k5,k6,_⟩:=rb hx (q9 (X:=X) g hx hx hp2) hul hk;exact⟨i,n,o,y,oc0,k1,k2,k3,k4,k5,k6,kI (kJ _ _) k2 (by simp[k1])⟩
 have hA0:∀b o,(aA O' st0 loc0 w).A b o->(aA O st loc w).A b o:=by
  rintro b off ((h|⟨n,oc,h1,_,h2,h3⟩)|⟨k,oc,h1,h2,h3⟩)
  ·exact .inl h
  ·exact .inr ⟨n,oc,h1,h2,h3⟩
  ·obtain⟨i,n,o,y,oc0,_,_,_,k4,k5,k6,k7⟩:=hf0 k oc h1
   refine .inr ⟨n,oc0,k4,by simp only[aA]at h2;rw[k7]at h2;exact h2,?_⟩;rcases Df (f:=iu aO x us) k5 with e|e
   ·rw[<-e,<-k6];exact h3
   ·cases e
 have hown0:∀b,(aA O' st0 loc0 w).owns b->∃n∈ν,b∈(loc n).bs:=by
  rintro b ⟨k,oc,h1,h2⟩;obtain⟨i,n,o,y,oc0,k1,_,_,_,_,_,k7⟩:=hf0 k oc h1;exact⟨n,br k1,by simp only[aA]at h2;rw[k7]at h2;exact h2⟩
 obtain⟨g0,laid0⟩:=Mh (X:=X) g hx hp2 hnd (O2:=O') (ν2:=us) (rest:=[]) (locR:=loc) (st2:=st0) (kJ _ _) hul
  (by simp[st0,ky,us]) (fun n hn=>by have:=rP hn;simp[st0,ky];omega)
  (fun n hn b hb off=>by
   obtain⟨oc,k⟩:=hν n hn;rintro(h|⟨m,oc',h1,h2,h3,_⟩)
   ·exact g.out n oc b off k hb h
   ·exact h2 (by rw[<-g.apart n m oc oc' b k h1 hb h3];exact hn))
  (fun n hn b hb m oc h=>by simp[look]at h) (fun m oc h=>by simp[look]at h) (fun m m' oc oc' b h=>by simp[look]at h) (fun m oc b off h=>by simp[look]at h) (.inr hA0)
  (fun b hb h=>by
   obtain⟨n,hn,hbn⟩:=hown0 b h;obtain⟨oc,k⟩:=hν n hn;exact g.kT.2 b hb ⟨n,oc,k,hbn⟩)
 have hargs:cR B.eT (aA O' st0 loc0 w) (wA (iu aO x us) args a) vs:=G2 (S:=aA O st loc w) (S':=aA O' st0 loc0 w) rfl (fun k v hk=>BM laid0 hk) (.inr hA0) hvals;have hcalls:=hcall (yl hvals) O' loc0 g0 hOin' hargs (uV hvals);refine hcalls.mono ?_;rintro e w' ⟨rs,us',st',locE,he,hk,hr,gE',trE'⟩;obtain⟨al,hal,ν',hnd',hkept,hcv,hokal,hret,hout,hc1,hc2⟩:=Ej hk;obtain⟨tF,gE,_,kF⟩:=uW al.res rs gE';generalize hst2:(kx al.res st' rs).2=st2 at*;generalize hrs2:(kx al.res st' rs).1=rs2 at*;have trE:=trE'.trans tF;have hrE:=kF us' hr;have hKal:=BY hK al hal;unfold Ge at hKal;split at hKal
 case h_2=>exact hKal.elim
 rename_i hn1;simp only[af]at hn1;obtain⟨hnd1,hbel⟩:=hn1;have hKal:=hKal hokal;generalize hν1:mH aO al.bN ν st.next=ν1 at*;have hl1:ν'.length=ν1.length:=by rw[<-hν1,pS];exact(pf hout).symm
 generalize hst1:({env:=st.env,aF:=lQ (iu al.bN (al.out a x) ν1) al.bN (al.out a x) ν1++qB st.aF ν,next:=st.next+al.bN.length}:St)=st1 at hKal;have h1env:st1.env=st.env:=by rw[<-hst1]
 have h1objs:st1.aF=lQ (iu al.bN (al.out a x) ν1) al.bN (al.out a x) ν1++qB st.aF ν:=by rw[<-hst1]
 have h1next:st1.next=st.next+al.bN.length:=by rw[<-hst1]
 let loc1:=fH ν1 (ν'.map locE) loc
 have hf1:∀m oc,look st1.aF m=some oc->(∃(i n:Nat) (o:Ob) (y:OD o) (oc0:OC),ν'[i]?=some n/\ν1[i]?=some m/\al.bN[i]?=some o/\look st2.aF n=some oc0/\jR al.cv st2.aF al.bN ν' o oc0=some y/\
   oc=qQ (iu al.bN (al.out a x) ν1) o y/\loc1 m=locE n)\/(m∉ν1/\m∉ν/\look st.aF m=some oc/\loc1 m=loc m):=by
  intro m oc hm;rw[h1objs,eN]at hm;split at hm
  ·rename_i oc' hm'
   cases hm;obtain⟨i,n,o,y,oc0,k1,k2,k3,k4,k5,k6,_⟩:=rb hout (q9 (X:=X) gE hout hout hc2) hl1 hm';exact .inl ⟨i,n,o,y,oc0,k1,k2,k3,k4,k5,k6,kI hnd1 k2 (by simp[k1])⟩
  ·rename_i hm'
   have hnin:m∉ν1:=fun hmem=>by
    obtain⟨oc1,h2⟩:=qw (f:=iu al.bN (al.out a x) ν1) (x:=al.out a x) (by rw[<-hν1,pS]) hmem;rw[h2]at hm';cases hm'
   rw[mA]at hm;split at hm
   ·cases hm
   ·rename_i hmn
    exact .inr ⟨hnin,hmn,hm,oR hnin⟩
 have hownE:∀n∈ν',∀b∈(locE n).bs,(aA O' st2 locE w').owns b:=by
  intro n hn b hb;obtain⟨_,oc,_,_,k,_⟩:=mz hout hn;exact⟨n,oc,k,hb⟩
 have hblk:∀m oc,look st.aF m=some oc->m∉ν->∀b∈(loc m).bs,¬(aA O' st0 loc0 w).owns b:=by
  intro m oc h1 h2 b hb' ho;obtain⟨n,hn,hbn⟩:=hown0 b ho;obtain⟨oc',k⟩:=hν n hn;have:=g.apart n m oc' oc b k h1 hbn hb';exact h2 (by rw[<-this];exact hn)
 have hA1:al.cv=false->∀b o,(aA O st1 loc1 w').A b o->(aA O' st2 locE w').A b o:=by
  rintro hcv0 b off (h|⟨m,oc,h1,h2,h3⟩)
  ·exact .inl (.inl h)
  ·rcases hf1 m oc h1 with⟨i,n,o,y,oc0,k1,k2,k3,k4,k5,k6,k7⟩|⟨k1,k2,k3,k4⟩
   ·refine .inr ⟨n,oc0,k4,by simp only[aA]at h2;rw[k7]at h2;exact h2,?_⟩
    rcases Df (f:=iu al.bN (al.out a x) ν1) k5 with e|e
    ·rw[<-e,<-k6];exact h3
    ·rw[hcv0]at e;cases e
   ·exact .inl (.inr ⟨m,oc,k3,k2,by simp only[aA]at h2;rw[k4]at h2;exact h2,h3⟩)
 have hkeep:∀(m i:Nat),ν1[i]?=some m->m<st.next->∃o o',aO[i]?=some o/\al.bN[i]?=some o'/\ld o o'=true/\ν[i]?=some m:=by
  intro m i h1 h2;rw[<-hν1]at h1;rcases qC h1 with h3|h3
  ·exact h3
  ·omega
 have hT:Tr (aA O st loc w) (aA O st1 loc1 w'):={
  O:=rfl
  next:=by simp only[aA];omega
  os:=trE.os
  output:=trE.output
  size:=trE.size
  own:=by
   rintro b ⟨m,oc,h1,h2⟩;rcases hf1 m oc h1 with⟨i,n,o,y,oc0,k1,k2,k3,k4,k5,k6,k7⟩|⟨k1,k2,k3,k4⟩
   ·simp only[aA]at h2;rw[k7]at h2
    rcases trE.own b (hownE n (br k1) b h2)with h3|h3
    ·obtain⟨n',hn',hb'⟩:=hown0 b h3
     obtain⟨oc',k⟩:=hν n' hn';exact .inl ⟨n',oc',k,hb'⟩
    ·exact .inr h3
   ·simp only[aA]at h2;rw[k4]at h2;exact .inl ⟨m,oc,k3,h2⟩
  cell:=by
   intro b off v hna hcell;obtain⟨h1,h2⟩:=trE.cell b off v (fun h=>hna (hA0 b off h)) hcell;refine⟨h1,fun h3 =>?_⟩;rcases hcv with hcv|⟨hnt,_,_⟩
   ·exact h2 (hA1 hcv b off h3)
   ·rcases h3 with h3|⟨m,oc,h3,h4,h5⟩
    ·exact hna (.inl h3)
    ·rcases hf1 m oc h3 with⟨i,n,o,y,oc0,k1,k2,k3,k4,k5,k6,k7⟩|⟨k1,k2,k3,k4⟩
     ·simp only[aA]at h4;rw[k7]at h4
      rcases trE.own b (hownE n (br k1) b h4)with h6|h6
      ·obtain⟨n',hn',hb'⟩:=hown0 b h6
       obtain⟨oc',k⟩:=hν n' hn';exact hna (.inr ⟨n',oc',k,hb',by rw[hlo n' hn' oc' k hnt];exact ar _⟩)
      ·have:=ek _ _ hcell
       simp only[aA]at this h6;omega
     ·simp only[aA]at h4;rw[k4]at h4;exact hna (.inr ⟨m,oc,k3,h4,h5⟩)
  block:=fun b hb' ho=>trE.block b hb' fun h=>ho (by
   obtain⟨n,hn,hbn⟩:=hown0 b h;obtain⟨oc,k⟩:=hν n hn;exact⟨n,oc,k,hbn⟩)
  loc:=by
   intro m hm hfix;by_cases hin:m∈ν1
   ·obtain⟨i,hi⟩:=List.getElem?_of_mem hin
    obtain⟨o,o',e1,e2,e3,e4⟩:=hkeep m i hi hm;have hiE:i<ν'.length:=by rw[hl1];exact bG hi
    have hn':ν'[i]?=some ν'[i]:=List.getElem?_eq_getElem hiE;have hni:=BX hkept e1 e2 e3 hn';rw[dh]at hni;have e5:loc1 m=locE i:=by
     have:=kI (d:=loc) hnd1 hi (ls:=ν'.map locE) (l:=locE i) (by simp[hn',hni]);exact this
    have hui:us[i]?=some i:=by have:=AB aO.length 0 i (bG e1);simpa using this
    have e6:loc0 i=loc m:=kI (kJ _ _) hui (by simp[e4]);have e7:=trE.loc i (show i<st0.next by simp[st0,ky];exact bG e1) (fun t ys hy=>by
     obtain⟨j,n,o2,y,oc0,k1,k2,k3,k4,k5,k6,k7⟩:=hf0 i _ hy;have hj:j=i:=qx (kJ _ _) k2 hui;subst hj;rw[e1]at k3;cases k3;cases o <;> simp[qQ]at k6;cases o' <;> simp[ld]at e3)
    show(loc1 m).v=(loc m).v/\(_->loc1 m=loc m);rw[e5,<-e6];refine⟨e7.1,fun hr=>e7.2 fun t z hy =>?_⟩;obtain⟨j,n,o2,y,oc0,k1,k2,k3,k4,k5,k6,k7⟩:=hf0 i _ hy;have hj:j=i:=qx (kJ _ _) k2 hui;subst hj;rw[e4]at k1;cases k1;cases o2 <;> simp[qQ]at k6;obtain⟨rfl,rfl,_⟩:=k6;obtain⟨z',rfl⟩:=(lH k5 (fun _ =>.any)).2.1 _ _ rfl;exact hr _ _ k4
   ·exact oh (oR hin)
  kind:=by
   intro m oc' hm hob;rcases hf1 m oc' hob with⟨i,n,o,y,oc0,k1,k2,k3,k4,k5,k6,k7⟩|⟨k1,k2,k3,k4⟩
   ·obtain⟨o0,o',e1,e2,e3,e4⟩:=hkeep m i k2 hm
    rw[k3]at e2;cases e2;have hui:us[i]?=some i:=by have:=AB aO.length 0 i (bG e1);simpa using this
    obtain⟨oc2,h2⟩:=qw (f:=iu aO x us) (x:=x) (ms:=us) (by rw[uK]) (br hui);obtain⟨j,n2,o2,y2,oc3,j1,j2,j3,j4,j5,j6,j7⟩:=hf0 i oc2 (by simpa[st0,ky]using h2);have hj:j=i:=qx (kJ _ _) j2 hui;subst hj;rw[e1]at j3;cases j3;rw[e4]at j1;cases j1;refine⟨oc3,j4,?_⟩;cases o0 <;> cases o <;> simp[ld]at e3
    ·subst e3
     obtain⟨cs,rfl⟩:=(lH j5 (fun _ =>.any)).1 _ _ rfl;rw[k6];rfl
    ·rename_i kp t kp' t'
     cases kp <;> cases kp' <;> simp at e3;have e3:=Ty.eq_of_beq e3;subst e3;obtain⟨xs,rfl⟩:=(lH j5 (fun _ =>.any)).2.2.1 _ _ rfl rfl;rw[k6];rfl
    ·obtain⟨e3,e4⟩:=e3
     have e4:=Ty.eq_of_beq e4;subst e3;subst e4;obtain⟨z,rfl⟩:=(lH j5 (fun _ =>.any)).2.1 _ _ rfl;rw[k6];exact⟨rfl,rfl⟩
   ·refine⟨oc',k3,?_⟩
    cases oc' <;> simp[aX,aA,k4]}
 obtain⟨g1,laid1⟩:=Mh (X:=X) gE hout hc2 hnd' (O2:=O) (ν2:=ν1) (rest:=qB st.aF ν) (locR:=loc) (st2:=st1) hnd1 hl1 h1objs
  (fun n hn=>by rw[h1next];exact qS hbel hn)
  (fun n hn b hb' off h=>by
   obtain⟨_,oc,_,_,k,_⟩:=mz hout hn;exact gE.out n oc b off k hb' (.inl h))
  (fun n hn b hb' m oc h1 h2 h3=>by
   rw[mA]at h1;split at h1
   ·cases h1
   ·rename_i hmn
    rcases trE.own b (hownE n hn b hb')with h4|h4
    ·exact hblk m oc h1 hmn b h3 h4
    ·have:=(g.obj m oc h1).2.inside b h3
     simp only[aA]at this h4;omega)
  (fun m oc h1 h2=>by
   rw[mA]at h1;split at h1
   ·cases h1
   ·rename_i hmn
    obtain⟨k1,k2⟩:=g.obj m oc h1;refine⟨by rw[h1next];simp only[aA]at k1;omega,k2.tr hT fun b hb' =>?_⟩;exact trE.block b (k2.inside b hb') (hblk m oc h1 hmn b hb'))
  (fun m m' oc oc' b h1 h2 _ _ h3 h4=>by
   rw[mA]at h1 h2;split at h1
   ·cases h1
   ·split at h2
    ·cases h2
    ·exact g.apart m m' oc oc' b h1 h2 h3 h4)
  (fun m oc b off h1 _ h2=>by
   rw[mA]at h1;split at h1
   ·cases h1
   ·exact g.out m oc b off h1 h2)
  (by
   rcases hcv with hcv|⟨_,hcv,_⟩
   ·exact .inr (hA1 hcv)
   ·exact .inl hcv)
  (g.kT.tr hT).2
 have hres:=D4 gE hout hret hrE hc1;refine⟨_,_,st1,loc1,he,hKal,h1env,g1,hT,wL (G2 (S:=aA O' st2 locE w') (S':=aA O st1 loc1 w') rfl (fun k v hk=>BM laid1 hk) ?_ hres)⟩;rcases hcv with hcv|⟨_,_,hcv⟩
 ·exact .inr (hA1 hcv)
 ·exact .inl hcv
def Sc{B:Cx}{Γ:List (FuncId×(Bool×aU))}(hok:bP P B X Γ){f:FuncId}{fn:Func}{c:Code}(hf:P.funcs[f]?=some fn)(hb:fn.body=some c)(hN:args.length<=fn.ntmps){anns:CD args->PD aO->dY}
  {pre:CD args->PD aO->Prop}{alts:List (Alt aO args)}(h:∀a x,gV args a->pre a x->(cY B Γ fn (anns a x) aO args alts a x).holds)
  {O:aI}{st:St}{loc:Nat->Loc}{w:World}{Xp:List cP}{vs:List Value}{K:SV->St->VC}(g:Good B.eT X (aA O st loc w))(hO:eS O w)(ha:cR B.eT (aA O st loc w) Xp vs)
  {ν:List Nat}{a:CD args}{x:PD aO}(hnd:nodupB ν=true)(hga:lR false st.aF aO ν args Xp=some a)(hx:eD false st.aF aO ν aO ν=some x)
  (hp1:∀p∈mg aO x args Xp,p)(hp2:∀p∈iR aO x st.aF aO ν,p)(hpre:pre a x)(hK:(wM a x ν st K alts).holds) :
  Calls P f vs.toArray w fun e w'=>∃v sv st' loc',e=.returned v/\(K sv st').holds/\st'.env=st.env/\Good B.eT X (aA O st' loc' w')/\
   Tr (aA O st loc w) (aA O st' loc' w')/\dI B.eT (aA O st' loc' w') sv v:=by
 refine Ek (B:=B) (pre:=pre) g hO ha hnd hga hx hp1 hp2 hpre hK fun hwf O' loc0 g0 hOin' hargs hlen =>?_
 have hcode:codeOf fn=c:=by unfold codeOf;rw[hb];rfl
 have hvc:=h a x hwf hpre;unfold cY at hvc;rw[hcode]at hvc;exact tc (X:=X) (hok fn.ntmps) hf hb (by rfl) (anns a x) (O:=O') (loc:=loc0) (w:=w) (args:=vs.toArray) (st:=ky aO args a x)
  (by rw[di,hlen];exact hN) g0 hOin'
  (fun t sv ht=>by
   obtain⟨_,v,k1,k2⟩:=tf 0 hargs t sv ht;exact⟨v,by simpa using k1,k2⟩) hvc
def bH{B:Cx}{Γ:List (FuncId×(Bool×aU))}(hok:bP P B X Γ){f:FuncId}{fn:Func}(hf:P.funcs[f]?=some fn)(hg:pj fn args.length=true)(anns:CD args->PD aO->dY)
  {pre:CD args->PD aO->Prop}{alts:List (Alt aO args)}(h:∀a x,gV args a->pre a x->(cY B Γ fn (anns a x) aO args alts a x).holds) :
  bY P B.eT X f false (aZ aO args pre alts):=by
 simp only[pj,af,cf]at hg;obtain⟨⟨h1,h2⟩,h3⟩:=hg;obtain⟨c,hc⟩:=dj.1 h1;refine⟨⟨fn,hf,by rw[hc];rfl,h2⟩,fun O st loc w Xp vs K hK g hO ha =>?_⟩;unfold aZ at hK;obtain⟨t1,g1,e1,k1⟩:=uW args Xp g;simp only at hK;split at hK
 case h_2=>exact hK.elim
 rename_i ν hν;split at hK
 case h_2=>exact hK.elim
 rename_i a x hnd hga hx;obtain⟨hp,hpre,hK⟩:=Az hK;obtain⟨hp1,hp2⟩:=jh.1 hp;refine(Sc hok hf hc (en h3) h g1 hO (k1 vs ha) hnd hga hx hp1 hp2 hpre hK).mono ?_;rintro e w' ⟨v,sv,st',loc',q1,q2,q3,q4,q5,q6⟩;exact⟨v,sv,st',loc',q1,q2,q3.trans e1,(fun hq=>by cases hq),q4,t1.trans q5,q6⟩
end
end Go.Vg

namespace Go.Vg
@[reducible] def aS:Ty:=.prod .str (.prod (.int .i64) (.prod .bool .unit))
@[reducible] def bA:Ty:=.prod (.int .i64) (.prod (.int .i64) .unit)
@[reducible] def bD:Ty:=.prod (.int .i64) (.prod (.int .i64) (.prod (.int .i64) (.prod .str (.prod .bool .unit))))
@[reducible] def aR:Ty:=.prod (.int .i64) (.prod (.int .i64) (.prod (.int .i64) .unit))
@[reducible] def aH:Ty:=.prod .str (.prod (.int .i64) (.prod (.int .i64) .unit))
@[reducible] def aB:Ty:=.prod (.slice .str) (.prod (.slice (.int .i64)) (.prod (.slice aS) (.prod (.slice bD) .unit)))
@[reducible] def aC:Ty:=.prod .str (.prod (.slice aH) (.prod (.slice aR) .unit))
@[reducible] def cQ:Ty:=.prod .str (.prod .str (.prod .str (.prod (.int .i64) (.prod (.int .u64) (.prod aC .unit)))))
@[reducible] def iH:Ty:=.prod .str (.prod (.int .i64) (.prod (.slice (.int .i64)) .unit))
@[reducible] def js:Ty:=.prod (.int .i64) (.prod .str .unit)
@[reducible] def Ud:Ty:=.prod (.slice .str) (.prod (.slice .str) (.prod (.slice js) (.prod (.int .i64) (.prod .bool .unit))))
theorem bl :
  (∀(p:Prop) [Decidable p],(decide p=true)=p)/\(∀(p:Prop) [Decidable p],(decide p=false)=¬p)/\
  (∀(α:Type) [BEq α] [LawfulBEq α] (a b:α),((a == b)=true)=(a=b))/\(∀(α:Type) [BEq α] [LawfulBEq α] (a b:α),((a == b)=false)=¬a=b)/\
  (∀(α:Type) [BEq α] [LawfulBEq α] (a b:α),((a != b)=true)=¬a=b)/\(∀(α:Type) [BEq α] [LawfulBEq α] (a b:α),((a != b)=false)=(a=b))/\
  (∀b:Bool,((!b)=true)=(b=false))/\(∀b:Bool,((!b)=false)=(b=true))/\(∀b:Bool,(¬b=true)=(b=false))/\(∀b:Bool,(¬b=false)=(b=true))/\
  (∀a b:Bool,((a&&b)=true)=(a=true/\b=true))/\(∀a b:Bool,((a || b)=true)=(a=true\/b=true))/\
  (∀a b:Bool,((a&&b)=false)=(a=false\/b=false))/\(∀a b:Bool,((a || b)=false)=(a=false/\b=false))/\
  (∀a b:Int,(¬a<b)=(b<=a))/\(∀a b:Int,(¬a<=b)=(b<a)):=by
 refine⟨?_,?_,?_,?_,?_,?_,?_,?_,?_,?_,?_,?_,?_,?_,?_,?_⟩ <;> intros <;> first|(simp;done)|(rename_i a b;cases a <;> cases b <;> simp)
end Go.Vg

namespace Go.Vg
open Go.RowKit
def Sd{w:World}{b i:Nat}{c:Array Value}{T:TypeId}{v:Value}(hb:w.heap[b]?=some (.cells c T (0,0))):(w.setCell ⟨b,i,none⟩ v).heap[b]?=some (.cells (c.setIfInBounds i v) T (0,0)):=by
 simp[World.setCell,Array.getElem?_modify,hb]
def UN{P:Program}{w:World}{t u ty e:TypeId}{i:TypeInfo}(ht:P.underlying t=some (.slice e))(hu:P.underlying u=some .string)(hi:P.info? e=some i)(hz:i.zero=some (.int .u8 0))
  (hsize:i.size=1)(hby:i.bytes=1){v:Value}{xs:List Value}(hown:w.ownsRow 0 e 1 v xs.length xs)(hcap:∀a n c,v=.slice (some a) n c->0<c)(s:ByteArray)(hlen:xs.length+s.size<=140737488355328) :
  ∃v' w',(eo #[t,u] ty #[v,.string s]).run P w=.ok v' w'/\w'.ownsRow 0 e 1 v' (xs.length+s.size) (xs++ct s)/\w.grownBy w' v.ownBlock/\(∀a n c,v'=.slice (some a) n c->0<c)/\
   (∀g,v'.ownBlock=some g->v.ownBlock=some g\/w.heap.size<=g):=by
 rcases hown.2 with⟨rfl,h0⟩|⟨g,cap,cur,rfl,hbg,hg,hnc,hcm,hcs,htake⟩
 ·have hown':w.ownsRow w.heap.size e 1 (.slice none 0 0) xs.length xs:=⟨hown.1,.inl ⟨rfl,h0⟩⟩
  obtain⟨v',w',h1,h2,h3,h4⟩:=Lib.run_append_own_string (P:=P) w w.heap.size t u ty e i ht hu hi hz hsize hby _ _ _ hown' s (by unfold maxLen;omega) hlen (ak _);rcases h2.2 with⟨rfl,h6⟩|⟨g,cap,cur,rfl,k1,k2,k3,k4⟩
  ·exact⟨_,w',h1,⟨h2.1,.inl ⟨rfl,h6⟩⟩,h3,(fun a n c hh=>by cases hh),(fun g hh=>by cases hh)⟩
  ·refine⟨_,w',h1,⟨h2.1,.inr ⟨g,cap,cur,rfl,ar _,k2,k3,k4⟩⟩,h3,fun a n c hh =>?_,fun g' hh=>by cases hh;exact .inr k1⟩
   cases hh;by_cases hs:s.size=0
   ·have:=h4.2 ⟨rfl,hs⟩;cases this
   ·omega
 ·have hc0:=hcap _ _ _ rfl
  by_cases hroom:xs.length+s.size<=cap
  ·obtain⟨w',h1,h2,h3⟩:=Lib.run_append_fits_string (P:=P) w 0 t u ty e i ht hu hi hsize _ _ _ _ hown s hc0 hroom
   exact⟨_,w',h1,h2,h3,(fun a n c hh=>by cases hh;exact hc0),(fun g' hh =>.inl hh)⟩
  ·have holds:∀j u,xs[j]?=some u->w.cell? ((⟨g,0,none⟩:Addr).add j)=some u:=hown.cells (g:=g) rfl
   have hr:=Lib.run_append_grow_string (P:=P) w t u ty e i (.int .u8 0) ht hu hi hz ⟨g,0,none⟩ xs.length cap xs (by rw[hsize];simp) holds s (by omega) (by omega) (by rw[hby];exact growslice_fits (by omega) (by omega));have hge:=grownCap_ge w (xs.length+s.size) cap e;have hcm':grownCap w (xs.length+s.size) cap e<=maxLen:=grownCap_le_maxLen w (xs.length+s.size) cap e (by unfold maxLen;omega);refine⟨_,_,hr,⟨by simp[dk],.inr ⟨w.heap.size,_,_,rfl,ar _,heap_alloc_new w.drew _,hge,hcm',?_,?_⟩⟩,⟨rfl,rfl,rfl,by simp,fun k hk _=>Go.Deep.blk_alloc_lt w.drew _ k hk⟩,(fun a n c hh=>by cases hh;omega),(fun g' hh=>by cases hh;exact .inr (ak _))⟩
   ·have hz1:(bt dm 0).cells.size=1:=rfl
    simp only[Array.size_append,di,size_zeroCells,hz1,dk];omega
   ·simp only[Array.toList_append,cu]
    rw[<-cu];have:(xs++ct s).length=(xs.length+s.size)*1:=by simp[dk]
    rw[<-this];exact List.take_left
def yF{P:Program}{w w':World}{ops:Array Oper}{rest:List Oper}{o:Oper}{a:Act}{Q:Exit->Act->World->Prop}(hgd:o.guard=none)(sl x:Operand)(t u:TypeId)
  (ho:o.op=.call {callee:=.builtin .append,args:=#[sl,x],argTypes:=#[t,u]}){v v' y:Value}(hs:a.eval sl=v)(hx:a.eval x=y)
  (hr:(eo #[t,u] o.type #[v,y]).run P w=.ok v' w')(h:wpList P ops Q rest (a.put o.dst v') w'):wpList P ops Q (o :: rest) a w:=by
 refine wpList_plain hgd fun K hK =>?_
 unfold Oper.wp execOp;simp only[ho,resolve,invoke,builtin,Sem.run_bind,Sem.run_pure,ep,List.map_toArray,aj,List.map_nil,hs,hx,hr];exact hK _ _ h
structure Kept (b:Nat) (v:Value) (w w':World):Prop where
 os:w'.os=w.os
 output:w'.output=w.output
 size:w.heap.size<=w'.heap.size
 block:∀k,k<w.heap.size->k≠b->v.ownBlock≠some k->w'.heap[k]?=w.heap[k]?
structure Mu (v:Value) (w w':World):Prop where
 os:w'.os=w.os
 output:w'.output=w.output
 size:w'.heap.size=w.heap.size
 block:∀k,v.ownBlock≠some k->w'.heap[k]?=w.heap[k]?
def JG{w:World}{g n c:Nat}{m:Nat}:Mu (.slice (some ⟨g,0,none⟩) n c) w (w.drew.freeze ⟨g,0,none⟩ m):=by
 unfold World.freeze;split
 ·exact⟨rfl,rfl,rfl,fun _ _=>rfl⟩
 ·refine⟨rfl,rfl,by simp,fun k hk =>?_⟩
  have:k≠g:=fun e=>hk (by rw[e];rfl)
  simp only[Array.getElem?_modify];rw[if_neg (fun e=>this e.symm)];rfl
def rU(T e:Nat):aU:=fun args st K=>
 match args with
 |[.one (.eM n),.one (.d .str s)]=>match look st.aF n with
  |some (.ext 2 t x)=>match h:Ty.beq t kv with
   |true =>.and ((cF h x).2.1=(T:Int)/\(cF h x).2.2.1=(e:Int)/\(cF h x).1.length+s.length<=140737488355328)
     (K (.mP [.one (.d (.int .i64) (s.length:Int)),.one (.d .err .nil)]) (setObj st n (.ext 2 kv ((cF h x).1++bJ s,(T:Int),(e:Int),()))))
   |false =>.ff
  |_ =>.ff
 |_ =>.ff
def qD(T e:Nat):aU:=fun args st K=>
 match args with
 |[.one (.eM n)]=>match look st.aF n with
  |some (.ext 2 t x)=>match h:Ty.beq t kv with
   |true =>.and ((cF h x).2.1=(T:Int)/\(cF h x).2.2.1=(e:Int)) (K (.s (.one (.d .str (bytesOf (cF h x).1)))) (bC st n))
   |false =>.ff
  |_ =>.ff
 |_ =>.ff
def wN(T e:Nat):aU:=fun args st K=>
 match args with
 |[.one (.eM n)]=>match look st.aF n with
  |some (.ext 2 t x)=>match h:Ty.beq t kv with
   |true =>.and ((cF h x).2.1=(T:Int)/\(cF h x).2.2.1=(e:Int)) (K (.s (.one (.d (.int .i64) ((cF h x).1.length:Int)))) st)
   |false =>.ff
  |_ =>.ff
 |_ =>.ff
section
variable{P:Program}{eT:TypeId}{X:Ext}{f:FuncId}
def Hc{O:aI}{st:St}{loc:Nat->Loc}{w:World}(g:Good eT X (aA O st loc w)){n:Nat}{x:D kv}(hob:look st.aF n=some (.ext 2 kv x)){v:Value}(hv:CR eT (aA O st loc w) (.eM n) v) :
  ∃b p u,v=.pointer (some ⟨b,0,none⟩)/\VQ x (loc n) w b p u:=by
 obtain⟨h0,b,p,u,hD⟩:=X.Oi.1 (g.obj n _ hob).2;exact⟨b,p,u,(hv.2 _ hob rfl).trans hD.lv,hD⟩
def uX(s:List UInt8):bytesOf (bJ s)=s:=by
 induction s with
 |nil=>rfl
 |cons c r ih=>
  simp only[bytesOf,bJ,aj,dn]at ih ⊢;rw[ih];simp
def Mv{xs:List Int}(h:∀y∈xs,0<=(y:Int)/\(y:Int)<=255):bJ (bytesOf xs)=xs:=by
 induction xs with
 |nil=>rfl
 |cons y r ih=>
  have h1:=h y (by simp);have h2:=ih fun z hz=>h z (by simp[hz])
  simp only[bJ,bytesOf,dn,aj]at h2 ⊢;rw[h2];congr 1;simp only[er];omega
def Mw(s:List UInt8):∀y∈bJ s,0<=(y:Int)/\(y:Int)<=255:=by
 intro y hy;simp only[bJ,bf]at hy;obtain⟨c,_,rfl⟩:=hy;have:=c.toNat_lt;omega
def Se{xs:List Int}(h:∀y∈xs,0<=(y:Int)/\(y:Int)<=255):xs.map (bt .u8)=(bytesOf xs).map fun c=>bt .u8 c.toNat:=by
 conv=>lhs;rw[<-Mv h]
 simp[bJ]
def BZ{T e:Nat}(hfn:∃fn,P.funcs[f]?=some fn/\fn.body.isNone=false/\(fn.name == "runtime.NumGoroutine")=false)
  (H:∀(b:Nat) (p v:Value) (xs:List Value) (s:ByteArray) (w:World),w.heap[b]?=some (.cells #[p,v] T (0,0))->(p=.pointer none\/p=.pointer (some ⟨b,0,none⟩))->w.ownsRow 0 e 1 v xs.length xs->v.ownBlock≠some b->
   (∀a n c,v=.slice (some a) n c->0<c)->xs.length+s.size<=140737488355328->
   Calls P f #[.pointer (some ⟨b,0,none⟩),.string s] w fun r w'=>r=.returned (.tuple #[.int .i64 s.size,.nilIface])/\
    ∃v',w'.heap[b]?=some (.cells #[.pointer (some ⟨b,0,none⟩),v'] T (0,0))/\w'.ownsRow 0 e 1 v' (xs.length+s.size) (xs++ct s)/\v'.ownBlock≠some b/\Kept b v w w'/\
     (∀a n c,v'=.slice (some a) n c->0<c)/\(∀g,v'.ownBlock=some g->v.ownBlock=some g\/w.heap.size<=g)) :
  bY P eT X f false (rU T e):=by
 refine⟨hfn,fun O st loc w args vs K hs g hO ha =>?_⟩;unfold rU at hs;split at hs
 case h_2=>exact hs.elim
 rename_i n s;split at hs
 case h_2=>exact hs.elim
 rename_i t x hob;split at hs
 case h_2=>exact hs.elim
 rename_i ht;have ht':=Ty.eq_of_beq ht;subst ht';rw[jP]at hs;obtain⟨⟨hT,he,hlen⟩,hs⟩:=hs
 match vs,ha with
 |[v0,v1],.cons h0 (.cons h1 .nil)=>
 obtain⟨b,p,u,rfl,hD⟩:=Hc g hob h0;obtain⟨rfl,hsl⟩:=jE.1 (show CR eT _ (.d .str s) v1 from h1);have hsz:(⟨s.toArray⟩:ByteArray).size=s.length:=by simp[ByteArray.size]
 have hT':x.2.1.toNat=T:=by rw[hT];rfl
 have he':x.2.2.1.toNat=e:=by rw[he];rfl
 have hheap:=hD.heap;have hrow:=hD.row;rw[hT']at hheap;rw[he']at hrow;refine(H b p u (x.1.map (bt .u8)) ⟨s.toArray⟩ w hheap hD.ptr (by simpa using hrow) hD.ne hD.cap (by simpa[hsz]using hlen)).mono ?_;rintro r w' ⟨rfl,v',k1,k2,k3,k4,k5,k6⟩;have hlt:b<w.heap.size:=(Array.getElem?_eq_some_iff.1 hheap).1;obtain⟨tr1,g1⟩:=pI (S:=aA O st loc w) (S':=aA O (setObj st n (.ext 2 kv (x.1++bJ s,(T:Int),(e:Int),()))) (bT loc n ⟨.pointer (some ⟨b,0,none⟩),b :: v'.ownBlock.toList⟩) w') (n:=n)
  (oc:=.ext 2 kv x) (oc':=.ext 2 kv (x.1++bJ s,(T:Int),(e:Int),())) (l':=⟨.pointer (some ⟨b,0,none⟩),b :: v'.ownBlock.toList⟩) g rfl hO hob
  (fun m=>oG st n m _) (fun _=>rfl) rfl (fun _=>⟨hD.lv.symm,fun h=>(h _ _ rfl).elim⟩) ⟨rfl,rfl⟩ k4.os k4.output k4.size
  (fun b' h1 h2=>k4.block b' h1 (fun e=>h2 (by simp only[aA];rw[hD.bs,e];simp)) (fun e=>h2 (by simp only[aA];rw[hD.bs,e];simp)))
  (fun b' o v _ ho=>by simp[OC.lo]at ho)
  (fun b' hb'=>by
   rcases ag.1 hb' with rfl|hb'
   ·exact .inl ⟨by simp only[aA];rw[hD.bs];simp,ak _⟩
   ·have hb':v'.ownBlock=some b':=by simpa using hb'
    rcases k6 b' hb' with h|h
    ·exact .inl ⟨by simp only[aA];rw[hD.bs,h];simp,ak _⟩
    ·exact .inr h)
 have g1:=g1 (X.Oi.2 ⟨rfl,b,.pointer (some ⟨b,0,none⟩),v',rfl,.inr rfl,k1,by
  have e1:x.1.map (bt .u8)++ct ⟨s.toArray⟩=(x.1++bJ s).map (bt .u8):=by rw[yM,List.map_append]
  have e2:(x.1.map (bt .u8)).length+(⟨s.toArray⟩:ByteArray).size=(x.1++bJ s).length:=by simp[hsz,bJ]
  rw[e1,e2]at k2;exact k2,rfl,k3,(fun y hy=>by
   rcases au.1 hy with h|h
   ·exact hD.u8 y h
   ·exact Mw s y h),k5⟩)
 refine⟨_,_,_,_,rfl,hs,rfl,(fun hh=>by cases hh),g1,tr1,⟨[.int .i64 (⟨s.toArray⟩:ByteArray).size,.nilIface],rfl,.cons ?_ (.cons ?_ .nil)⟩⟩
 ·refine cS.2 ⟨by rw[hsz],?_⟩
  simp only[dp,dq,dr,dt];unfold aN at hsl;constructor <;> simp <;> omega
 ·exact nw.2 rfl
def Mx{O:aI}{st:St}{loc:Nat->Loc}{w w':World}(g:Good eT X (aA O st loc w)){n:Nat}{oc0:OC}(hn:look st.aF n=some oc0)(h0:oc0.lo=0)
  (hos:w'.os=w.os)(hout:w'.output=w.output)(hsz:w.heap.size<=w'.heap.size)(hb:∀b,b<w.heap.size->b∉(loc n).bs->w'.heap[b]?=w.heap[b]?) :
  Tr (aA O st loc w) (aA O (bC st n) loc w')/\Good eT X (aA O (bC st n) loc w'):=by
 have hob:∀m oc,look (bC st n).aF m=some oc->m≠n/\look st.aF m=some oc:=by
  intro m oc h;simp only[bC]at h;rw[lP]at h;split at h
  ·cases h
  ·rename_i hne;exact⟨fun e=>hne e.symm,h⟩
 have hA:∀b o,(aA O (bC st n) loc w').A b o->(aA O st loc w).A b o:=by
  rintro b o (h|⟨m,oc,h1,h2⟩)
  ·exact .inl h
  ·exact .inr ⟨m,oc,(hob _ _ h1).2,h2⟩
 have ht:Tr (aA O st loc w) (aA O (bC st n) loc w'):={
  O:=rfl
  next:=ak _
  os:=hos
  output:=hout
  size:=hsz
  own:=fun b h=>by obtain⟨m,oc,h1,h2⟩:=h;exact .inl ⟨m,oc,(hob _ _ h1).2,h2⟩
  cell:=fun b o v h1 h2=>by
   have hlt:=ek w _ h2;refine⟨?_,fun h=>h1 (hA b o h)⟩;show w'.cell? _=_;rw[World.cell?_of_block (w:=w) (w':=w') (a:=⟨b,o,none⟩) (hb b hlt fun hm=>h1 (.inr ⟨n,oc0,hn,hm,by rw[h0];exact ar _⟩))];exact h2
  block:=fun b h1 h2=>hb b h1 fun hm=>h2 ⟨n,oc0,hn,hm⟩
  loc:=fun _ _ _=>oh rfl
  kind:=fun m oc _ h=>⟨oc,(hob _ _ h).2,by cases oc <;> simp[aX,aA]⟩}
 refine⟨ht,⟨fun m oc h =>?_,fun m1 m2 oc1 oc2 b h1 h2 h3 h4 =>?_,fun m oc b off h1 h2 =>?_,g.kT.tr ht⟩⟩
 ·obtain⟨hne,h⟩:=hob _ _ h
  obtain⟨h1,h2⟩:=g.obj m oc h;exact⟨h1,h2.tr ht fun b hbm=>hb b (h2.inside b hbm) fun hbn=>hne (g.apart m n oc oc0 b h hn hbm hbn)⟩
 ·exact g.apart m1 m2 oc1 oc2 b (hob _ _ h1).2 (hob _ _ h2).2 h3 h4
 ·exact g.out m oc b off (hob _ _ h1).2 h2
def AE{T e:Nat}(hfn:∃fn,P.funcs[f]?=some fn/\fn.body.isNone=false/\(fn.name == "runtime.NumGoroutine")=false)
  (H:∀(b:Nat) (p v:Value) (l:List UInt8) (w:World),w.heap[b]?=some (.cells #[p,v] T (0,0))->w.ownsRow 0 e 1 v l.length (l.map fun c=>bt .u8 c.toNat)->(∀a n c,v=.slice (some a) n c->0<c)->
   Calls P f #[.pointer (some ⟨b,0,none⟩)] w fun r w'=>r=.returned (.string ⟨l.toArray⟩)/\Mu v w w') :
  bY P eT X f false (qD T e):=by
 refine⟨hfn,fun O st loc w args vs K hs g hO ha =>?_⟩;unfold qD at hs;split at hs
 case h_2=>exact hs.elim
 rename_i n;split at hs
 case h_2=>exact hs.elim
 rename_i t x hob;split at hs
 case h_2=>exact hs.elim
 rename_i ht;have ht':=Ty.eq_of_beq ht;subst ht';rw[jP]at hs;obtain⟨⟨hT,he⟩,hs⟩:=hs
 match vs,ha with
 |[v0],.cons h0 .nil=>
 obtain⟨b,p,u,rfl,hD⟩:=Hc g hob h0;have hT':x.2.1.toNat=T:=by rw[hT];rfl
 have he':x.2.2.1.toNat=e:=by rw[he];rfl
 have hheap:=hD.heap;have hrow:=hD.row;rw[hT']at hheap;rw[he',Se hD.u8,show x.1.length=(bytesOf x.1).length by simp[bytesOf]]at hrow;refine(H b p u (bytesOf x.1) w hheap hrow hD.cap).mono ?_;rintro r w' ⟨rfl,k⟩;obtain⟨tr1,g1⟩:=Mx (w':=w') g hob rfl k.os k.output (by rw[k.size];exact ak _) (fun b' _ h2=>k.block b' fun e=>h2 (by rw[hD.bs,e];simp));refine⟨_,_,_,_,rfl,hs,rfl,(fun hh=>by cases hh),g1,tr1,?_⟩;refine(jE (eT:=eT) (S:=aA O (bC st n) loc w')).2 ⟨rfl,?_⟩;rcases hrow.2 with⟨_,h⟩|⟨_,cap,_,_,_,_,h1,h2,_⟩
 ·rw[h];exact ar _
 ·unfold maxLen at h2;unfold aN;omega
def FY{T e:Nat}(hfn:∃fn,P.funcs[f]?=some fn/\fn.body.isNone=false/\(fn.name == "runtime.NumGoroutine")=false)
  (H:∀(b:Nat) (p q:Value) (a:Option Addr) (n c:Nat) (w:World),w.heap[b]?=some (.cells #[p,.slice a n c] T (0,0))->
   Calls P f #[.pointer (some ⟨b,0,none⟩)] w fun r w'=>r=.returned (.int .i64 n)/\w'=w) :
  bY P eT X f true (wN T e):=by
 refine⟨hfn,fun O st loc w args vs K hs g hO ha =>?_⟩;unfold wN at hs;split at hs
 case h_2=>exact hs.elim
 rename_i n;split at hs
 case h_2=>exact hs.elim
 rename_i t x hob;split at hs
 case h_2=>exact hs.elim
 rename_i ht;have ht':=Ty.eq_of_beq ht;subst ht';rw[jP]at hs;obtain⟨⟨hT,he⟩,hs⟩:=hs
 match vs,ha with
 |[v0],.cons h0 .nil=>
 obtain⟨b,p,u,rfl,hD⟩:=Hc g hob h0;have hT':x.2.1.toNat=T:=by rw[hT];rfl
 have hheap:=hD.heap;rw[hT']at hheap;obtain⟨a,c,rfl,hl⟩:∃a c,u=.slice a x.1.length c/\x.1.length<=aN:=by
  rcases hD.row.2 with⟨rfl,h⟩|⟨g',cap,cur,h,_,_,h1,h2,_⟩
  ·exact⟨none,0,by rw[h],by rw[h];exact ar _⟩
  ·exact⟨_,_,h,by unfold maxLen at h2;unfold aN;omega⟩
 refine(H b p p a x.1.length c w hheap).mono ?_;rintro r w' ⟨rfl,rfl⟩;refine⟨_,_,_,loc,rfl,hs,rfl,fun _=>Below.refl _ _,g,Tr.refl _,?_⟩;refine(cS (eT:=eT) (S:=aA O st loc w')).2 ⟨rfl,?_⟩;unfold aN at hl;simp only[dp,dq,dr,dt];constructor <;> simp <;> omega
end
end Go.Vg

namespace Go.Mrl
open Go.Vg
def small(c:UInt8):Bool:=decide ((97:Int)<=c.toNat)&&decide ((c.toNat:Int)<=122)
def other(c:UInt8):Bool:=(decide ((48:Int)<=c.toNat)&&decide ((c.toNat:Int)<=57)) || ((c.toNat:Int) == 95)
def kj(i:Nat)(c:UInt8):Bool:=!small c&&((i:Int) == 0 || !other c)
def tS(s:List UInt8):Bool:=(ba s.length).any fun i=>kj i (dQ s i)
def aP(s:List UInt8):Int:=if s.length<1\/8<s.length then 1 else if tS s=true then 3 else 0
def aJ(n:Int):aL:=if n=0 then .nil else .no n
def ym:aL->Int->Bool
 |.nil,n=>n == 0
 |.no m,n=>decide (n > 0)&&m == n
 |.other,_=>false
def kW:aL->Int
 |.nil=>0
 |.no m=>m
 |.other =>-1
def eV(s:List UInt8):0<=aP s:=by
 unfold aP;split
 ·decide
 ·split <;> decide
def JH{s:List UInt8}{i:Nat}(h:i<s.length)(hb:kj i (dQ s i)=true):tS s=true:=by
 simp only[tS,cw,et];exact⟨i,h,hb⟩
def Hd{s:List UInt8}(h:∀i,i<s.length->kj i (dQ s i)=false):tS s=false:=by
 simp only[tS,cy,et];intro i hi;rw[h i hi];simp
def FZ{s:List UInt8}(h:s.length<1\/8<s.length):aP s=1:=by unfold aP;rw[if_pos h]
def B0{s:List UInt8}{i:Nat}(h:¬(s.length<1\/8<s.length))(hi:i<s.length)(hb:kj i (dQ s i)=true):aP s=3:=by
 unfold aP;rw[if_neg h,if_pos (JH hi hb)]
def Di{s:List UInt8}(h:¬(s.length<1\/8<s.length))(hb:∀i,i<s.length->kj i (dQ s i)=false):aP s=0:=by
 unfold aP;rw[if_neg h,if_neg (by rw[Hd hb];decide)]
def El{i:Nat}{c:UInt8}:kj i c=true↔¬(97<=c.toNat/\c.toNat<=122)/\(i=0\/¬((48<=c.toNat/\c.toNat<=57)\/c.toNat=95)):=by
 simp only[kj,small,other,af,cf,Bool.and_eq_false_iff,bq,du,decide_eq_false_iff_not,beq_iff_eq,beq_eq_false_iff_ne];omega
def JI{i:Nat}{c:UInt8}:kj i c=false↔¬(¬(97<=c.toNat/\c.toNat<=122)/\(i=0\/¬((48<=c.toNat/\c.toNat<=57)\/c.toNat=95))):=by
 rw[<-El];simp
def Sf{s:List UInt8}{i:Nat}(h:∀j,j<i->kj j (dQ s j)=false)(hb:kj i (dQ s i)=false):∀j,j<i+1->kj j (dQ s j)=false:=by
 intro j hj;rcases bg j i with hlt|hge
 ·exact h j hlt
 ·obtain rfl:j=i:=by omega
  exact hb
def ib(p:D aS->Prop)(l:List (D aB))(i k:Nat):Prop:=
 i<l.length/\k<(nth aB l i).2.2.1.length/\p (nth aS (nth aB l i).2.2.1 k)
def yY(s:List UInt8)(x:D aS):Prop:=x.1=s
def nF(s:List UInt8)(x:D aS):Prop:=x.1=s/\x.2.2.1=false
def ahead(i k i' k':Nat):Prop:=i<i'\/(i=i'/\k<k')
def wO(p:D aS->Prop)(l:List (D aB))(i k:Nat):Prop:=∀i' k',ahead i' k' i k->¬ib p l i' k'
def mj(p:D aS->Prop)(l:List (D aB))(i k:Nat):Prop:=ib p l i k/\wO p l i k
def wP{p:D aS->Prop}{l:List (D aB)}{i k i' k':Nat}(h:mj p l i k)(h':mj p l i' k'):i=i'/\k=k':=by
 have h1:¬ahead i k i' k':=fun a=>h'.2 i k a h.1
 have h2:¬ahead i' k' i k:=fun a=>h.2 i' k' a h'.1
 unfold ahead at h1 h2;omega
def wQ{p:D aS->Prop}{l:List (D aB)}{i k:Nat}(h:ib p l i k):∃i k,mj p l i k:=by
 have hi:∀n,∀i,i<=n->∀k,ib p l i k->∃i,(∃k,ib p l i k)/\∀j,j<i->∀k,¬ib p l j k:=by
  intro n;induction n with
  |zero=>intro i hi k h;exact⟨i,⟨k,h⟩,fun j hj=>by omega⟩
  |succ n ih=>
   intro i hi k h;by_cases c:∃j,j<i/\∃k,ib p l j k
   ·obtain⟨j,hj,k,hk⟩:=c
    exact ih j (by omega) k hk
   ·exact⟨i,⟨k,h⟩,fun j hj k hk=>c ⟨j,hj,k,hk⟩⟩
 obtain⟨i0,⟨k0,h0⟩,hmin⟩:=hi i i (ak _) k h;have hk:∀n,∀k,k<=n->ib p l i0 k->∃k,ib p l i0 k/\∀j,j<k->¬ib p l i0 j:=by
  intro n;induction n with
  |zero=>intro k hk h;exact⟨k,h,fun j hj=>by omega⟩
  |succ n ih=>
   intro k hk h;by_cases c:∃j,j<k/\ib p l i0 j
   ·obtain⟨j,hj,h2⟩:=c
    exact ih j (by omega) h2
   ·exact⟨k,h,fun j hj h2=>c ⟨j,hj,h2⟩⟩
 obtain⟨k1,h1,h2⟩:=hk k0 k0 (ak _) h0;refine⟨i0,k1,h1,fun i' k' ha hp =>?_⟩;rcases ha with ha|⟨rfl,ha⟩
 ·exact hmin i' ha k' hp
 ·exact h2 k' ha hp
open Classical in
def eB(x:List (D aB)×List UInt8):Int×Int:=
 if h:∃p:Nat×Nat,mj (nF x.2) x.1 p.1 p.2 then(((b9 h).1:Nat),((b9 h).2:Nat))
 else if h:∃p:Nat×Nat,mj (yY x.2) x.1 p.1 p.2 then(((b9 h).1:Nat),((b9 h).2:Nat))
 else(-1,-1)
def wR{l:List (D aB)}{s:List UInt8}{i k:Nat}(h:mj (nF s) l i k):eB (l,s)=((i:Int),(k:Int)):=by
 have hx:∃p:Nat×Nat,mj (nF s) l p.1 p.2:=⟨(i,k),h⟩
 unfold eB;rw[dif_pos hx];have:=wP h (cz hx);rw[<-this.1,<-this.2]
def B1{l:List (D aB)}{s:List UInt8}{i k:Nat}(hn:∀i k,¬ib (nF s) l i k)(h:mj (yY s) l i k):eB (l,s)=((i:Int),(k:Int)):=by
 have hx:∃p:Nat×Nat,mj (yY s) l p.1 p.2:=⟨(i,k),h⟩
 unfold eB;rw[dif_neg (fun⟨p,h⟩=>hn p.1 p.2 h.1),dif_pos hx];have:=wP h (cz hx);rw[<-this.1,<-this.2]
def B2{l:List (D aB)}{s:List UInt8}(hn:∀i k,¬ib (yY s) l i k):eB (l,s)=(-1,-1):=by
 unfold eB;rw[dif_neg (fun⟨p,h⟩=>hn p.1 p.2 ⟨h.1.1,h.1.2.1,h.1.2.2.1⟩),dif_neg (fun⟨p,h⟩=>hn p.1 p.2 h.1)]
def JJ(l:List (D aB))(s:List UInt8):(∃i k:Nat,eB (l,s)=((i:Int),(k:Int))/\mj (nF s) l i k)\/
  (∃i k:Nat,eB (l,s)=((i:Int),(k:Int))/\mj (yY s) l i k/\∀i k,¬ib (nF s) l i k)\/
  (eB (l,s)=(-1,-1)/\∀i k,¬ib (yY s) l i k):=by
 by_cases h1:∃i k,ib (nF s) l i k
 ·obtain⟨i,k,h⟩:=h1
  obtain⟨i,k,h⟩:=wQ h;exact .inl ⟨i,k,wR h,h⟩
 ·have h1':∀i k,¬ib (nF s) l i k:=fun i k h=>h1 ⟨i,k,h⟩
  by_cases h2:∃i k,ib (yY s) l i k
  ·obtain⟨i,k,h⟩:=h2
   obtain⟨i,k,h⟩:=wQ h;exact .inr (.inl ⟨i,k,B1 h1' h,h,h1'⟩)
  ·have h2':∀i k,¬ib (yY s) l i k:=fun i k h=>h2 ⟨i,k,h⟩
   exact .inr (.inr ⟨B2 h2',h2'⟩)
def iX(l:List (D aB))(s:List UInt8)(i k:Nat)(a b:Int):Prop:=
 wO (nF s) l i k/\((a= -1/\b= -1/\wO (yY s) l i k)\/∃i0 k0:Nat,a=i0/\b=k0/\mj (yY s) l i0 k0)
def iX.start(l:List (D aB))(s:List UInt8):iX l s 0 0 (-1) (-1):=
 ⟨fun i' k' h=>by unfold ahead at h;omega,.inl ⟨rfl,rfl,fun i' k' h=>by unfold ahead at h;omega⟩⟩
def wO.next{p:D aS->Prop}{l:List (D aB)}{i k:Nat}(h:wO p l i k)(hn:¬ib p l i k):wO p l i (k+1):=by
 intro i' k' ha hp;by_cases e:i'=i/\k'=k
 ·rw[e.1,e.2]at hp;exact hn hp
 ·exact h i' k' (by unfold ahead at*;omega) hp
def iX.skip{l:List (D aB)}{s:List UInt8}{i k:Nat}{a b:Int}(h:iX l s i k a b)(hn:¬(nth aS (nth aB l i).2.2.1 k).1=s):iX l s i (k+1) a b:=by
 refine⟨h.1.next fun hp=>hn hp.2.2.1,?_⟩;rcases h.2 with⟨h1,h2,h3⟩|h3
 ·exact .inl ⟨h1,h2,h3.next fun hp=>hn hp.2.2⟩
 ·exact .inr h3
def iX.Wf{l:List (D aB)}{s:List UInt8}{i k:Nat}{a b:Int}(h:iX l s i k a b)(hi:i<l.length)(hk:k<(nth aB l i).2.2.1.length)
  (hs:(nth aS (nth aB l i).2.2.1 k).1=s)(hw:(nth aS (nth aB l i).2.2.1 k).2.2.1=false):eB (l,s)=((i:Int),(k:Int)):=
 wR ⟨⟨hi,hk,hs,hw⟩,h.1⟩
def iX.Dc{l:List (D aB)}{s:List UInt8}{i k:Nat}{a b:Int}(h:iX l s i k a b)(hi:i<l.length)(hk:k<(nth aB l i).2.2.1.length)
  (hs:(nth aS (nth aB l i).2.2.1 k).1=s)(hw:¬(nth aS (nth aB l i).2.2.1 k).2.2.1=false)(ha:a<0):iX l s i (k+1) (i:Int) (k:Int):=by
 refine⟨h.1.next fun hp=>hw hp.2.2.2,.inr ⟨i,k,rfl,rfl,⟨hi,hk,hs⟩,?_⟩⟩;rcases h.2 with⟨_,_,h3⟩|⟨i0,k0,h1,_⟩
 ·exact h3
 ·omega
def iX.more{l:List (D aB)}{s:List UInt8}{i k:Nat}{a b:Int}(h:iX l s i k a b)
  (hw:¬(nth aS (nth aB l i).2.2.1 k).2.2.1=false)(ha:¬a<0):iX l s i (k+1) a b:=by
 refine⟨h.1.next fun hp=>hw hp.2.2.2,?_⟩;rcases h.2 with⟨h1,_,_⟩|h3
 ·omega
 ·exact .inr h3
def wO.row{p:D aS->Prop}{l:List (D aB)}{i k:Nat}(h:wO p l i k)(hk:(nth aB l i).2.2.1.length<=k):wO p l (i+1) 0:=by
 intro i' k' ha hp;refine h i' k' ?_ hp;unfold ahead at*;by_cases e:i'=i
 ·subst e;have:=hp.2.1;omega
 ·omega
def iX.row{l:List (D aB)}{s:List UInt8}{i k:Nat}{a b:Int}(h:iX l s i k a b)(hk:(nth aB l i).2.2.1.length<=k):iX l s (i+1) 0 a b:=by
 refine⟨h.1.row hk,?_⟩;rcases h.2 with⟨h1,h2,h3⟩|h3
 ·exact .inl ⟨h1,h2,h3.row hk⟩
 ·exact .inr h3
def wO.all{p:D aS->Prop}{l:List (D aB)}{i k:Nat}(h:wO p l i k)(hi:l.length<=i):∀i k,¬ib p l i k:=
 fun i' k' hp=>h i' k' (by have:=hp.1;unfold ahead;omega) hp
def iX.done{l:List (D aB)}{s:List UInt8}{i k:Nat}{a b:Int}(h:iX l s i k a b)(hi:l.length<=i):eB (l,s)=(a,b):=by
 rcases h.2 with⟨rfl,rfl,h3⟩|⟨i0,k0,rfl,rfl,h3⟩
 ·exact B2 (h3.all hi)
 ·exact B1 (h.1.all hi) h3
def lV{p:Nat->Prop}{n:Nat}(h:∀j,j<n->p j)(hn:p n):∀j,j<n+1->p j:=by
 intro j hj;by_cases e:j=n
 ·rw[e];exact hn
 ·exact h j (by omega)
def yn{l:List (D aB)}{s:List UInt8}(h:0<=(eB (l,s)).1):(eB (l,s)).1<l.length/\0<=(eB (l,s)).2/\(eB (l,s)).2<(nth aB l (eB (l,s)).1.toNat).2.2.1.length/\
  (nth aS (nth aB l (eB (l,s)).1.toNat).2.2.1 (eB (l,s)).2.toNat).1=s:=by
 rcases JJ l s with⟨i0,k0,e,f⟩|⟨i0,k0,e,f,n⟩|⟨e,n⟩
 ·rw[e];obtain⟨h1,h2,h3⟩:=f.1;exact⟨by simp only;omega,by simp only;omega,by simp only[dv];omega,h3.1⟩
 ·rw[e];obtain⟨h1,h2,h3⟩:=f.1;exact⟨by simp only;omega,by simp only;omega,by simp only[dv];omega,h3⟩
 ·rw[e]at h;simp at h
end Go.Mrl
namespace Go.Mrl
open Go.Vg
end Go.Mrl
namespace Go.Mrl
open Go.Vg
end Go.Mrl

namespace Go.Mrl
open Go.Vg
end Go.Mrl
namespace Go.Mrl
open Go.Vg
end Go.Mrl
namespace Go.Mrl
open Go.Vg
end Go.Mrl
namespace Go.Mrl
open Go.Vg
end Go.Mrl
namespace Go.Mrl
open Go.Vg
end Go.Mrl
namespace Go.Mrl
open Go.Vg
end Go.Mrl

namespace Go.Mrl
open Go.Vg
def ik(a b:Int×Int×Unit):Bool:=decide (a.2.1<=0) || (decide (b.2.1<=0) || (decide (a.1+a.2.1<=b.1) || decide (b.1+b.2.1<=a.1)))
def JK{a b:Int×Int×Unit}:ik a b=true↔a.2.1<=0\/b.2.1<=0\/a.1+a.2.1<=b.1\/b.1+b.2.1<=a.1:=by simp[ik]
def wS{a b:Int×Int×Unit}:ik a b=false↔0<a.2.1/\0<b.2.1/\b.1<a.1+a.2.1/\a.1<b.1+b.2.1:=by simp[ik]
def cM(n:Int):Int:=(n+15) / 16*16
def oU(r:Int×Int×Unit):Prop:=-1000000<=r.1/\r.1<=1000000/\-1000000<=r.2.1/\r.2.1<=1000000
def ja(r:D bA)(l:List (D bA)):Bool:=l.all (ik r)
def mZ{t:Ty}{xs:List (D t)}{i:Nat}(h:i<xs.length):xs[i]?=some (nth t xs i):=by
 rw[List.getElem?_eq_getElem h,<-iA (List.getElem?_eq_getElem h)]
def dJ{t:Ty}{xs:List (D t)}{i:Nat}(h:i<xs.length):nth t xs i∈xs:=by
 have:=mZ (t:=t) h;exact br this
def fZ{t:Ty}{xs:List (D t)}{x:D t}(h:x∈xs):∃i,i<xs.length/\nth t xs i=x:=by
 obtain⟨i,hi,e⟩:=dw h;exact⟨i,hi,by rw[<-e];exact iA (List.getElem?_eq_getElem hi)⟩
def B3{r:D bA}{l:List (D bA)}(h:∀j,j<l.length->ik r (nth bA l j)=true):ja r l=true:=by
 unfold ja;rw[ca];intro x hx;obtain⟨i,hi,e⟩:=fZ hx;rw[<-e];exact h i hi
def yZ{r:D bA}{l:List (D bA)}{j:Nat}(h:j<l.length)(hf:ik r (nth bA l j)=false):ja r l=false:=by
 unfold ja;rw[c6];exact⟨_,dJ h,by rw[hf];decide⟩
def O1{r:D bA}{l:List (D bA)}(h:ja r l=false):∃x∈l,ik r x=false:=by
 unfold ja at h;rw[c6]at h;obtain⟨x,hx,e⟩:=h;exact⟨x,hx,by simpa using e⟩
def gz(l:List (D bA))(many:Int):Nat->Int->Int
 |0,at_=>at_
 |n+1,at_=>if ja (at_,many,()) l=true then at_ else gz l many n (at_+16)
def gQ:List (D bA)->List Int->List Int->Option (List Int)
 |_,[],out=>some out
 |l,n :: r,out=>if 256<gz l (cM n) 40 0+cM n then none else gQ (l++[(gz l (cM n) 40 0,cM n,())]) r (out++[gz l (cM n) 40 0])
def AF(s:List Int):Bool:=s.any fun(n:Int)=>decide (n<1) || decide (40<n)
def AG(l:List (D bA)):Bool:=l.any fun(r:Int×Int×Unit)=>decide (r.1<0) || (decide (256<r.1) || (decide (r.2.1<0) || decide (256<r.2.1)))
def cN(x:List Int×List (D bA)):List Int×aL:=
 if 6<x.1.length\/20<x.2.length then([],.no 2)else if AF x.1=true\/AG x.2=true then([],.no 1)else
  match gQ x.2 x.1 []with
  |some o=>(o,.nil)
  |none=>([],.no 8)
def K5{t:Ty}{xs:List (D t)}{p:D t->Bool}{i:Nat}(h:i<xs.length)(hp:p (nth t xs i)=true):xs.any p=true:=by
 rw[cw];exact⟨_,dJ h,hp⟩
def K6{t:Ty}{xs:List (D t)}{p:D t->Bool}(h:∀i,i<xs.length->p (nth t xs i)=false):xs.any p=false:=by
 rw[cy];intro x hx;obtain⟨i,hi,e⟩:=fZ hx;rw[<-e,h i hi];decide
def rV{l:List (D bA)}{s out:List Int}{k:Nat}(h:k<s.length):gQ l (s.drop k) out=
  if 256<gz l (cM (nth (.int .i64) s k)) 40 0+cM (nth (.int .i64) s k)then none
  else gQ (l++[(gz l (cM (nth (.int .i64) s k)) 40 0,cM (nth (.int .i64) s k),())]) (s.drop (k+1)) (out++[gz l (cM (nth (.int .i64) s k)) 40 0]):=by
 have e:s.drop k=nth (.int .i64) s k :: s.drop (k+1):=by
  rw[eu h];congr 1;exact(iA (t:=.int .i64) (List.getElem?_eq_getElem h)).symm
 rw[e];rfl
def JL{l:List (D bA)}{s out:List Int}{k:Nat}(h:s.length<=k):gQ l (s.drop k) out=some out:=by
 rw[b3 h];rfl
def nO(r:Int×Int×Unit):Prop:=0<=r.1/\r.1<=256/\0<=r.2.1/\r.2.1<=256
def nO.oU{r:Int×Int×Unit}(h:nO r):Mrl.oU r:=by
 obtain⟨h1,h2,h3,h4⟩:=h;refine⟨?_,?_,?_,?_⟩ <;> omega
def O3{l:List (D bA)}{at_ many:Int}(hl:∀x∈l,nO x)(h:ja (at_,many,()) l=false):at_<512:=by
 obtain⟨x,hx,e⟩:=O1 h;obtain⟨h1,h2,h3,h4⟩:=hl x hx;obtain⟨h5,h6,h7,h8⟩:=wS.1 e;have h8:at_<x.1+x.2.1:=h8;omega
def qh{l:List (D bA)}{many at_:Int}{n:Nat}(h:ja (at_,many,()) l=true):gz l many n at_=at_:=by
 cases n with
 |zero=>rfl
 |succ n=>rw[gz,if_pos h]
def Em{l:List (D bA)}{many at_:Int}{n:Nat}(h:ja (at_,many,()) l=false):gz l many (n+1) at_=gz l many n (at_+16):=by
 rw[gz,if_neg (by rw[h];decide)]
def lr{n:Int}(h1:1<=n)(h2:n<=40):16<=cM n/\cM n<=48:=by unfold cM;omega
end Go.Mrl
namespace Go.Mrl
open Go.Vg
def y5{s:List Int}{l:List (D bA)}(h:6<s.length\/20<l.length):cN (s,l)=([],.no 2):=by
 unfold cN;rw[if_pos h]
def y7{s:List Int}{l:List (D bA)}(h:¬(6<s.length\/20<l.length)){i:Nat}(hi:i<s.length)(hb:¬(1<=(nth (.int .i64) s i:Int)/\(nth (.int .i64) s i:Int)<=40)):cN (s,l)=([],.no 1):=by
 unfold cN;rw[if_neg h,if_pos];refine .inl (K5 (t:=.int .i64) hi ?_);simp only[bq,decide_eq_true_eq];generalize nth (.int .i64) s i=x at hb;have hb:¬(1<=(x:Int)/\(x:Int)<=40):=hb;dsimp only[D]at*;omega
def wT{s:List Int}{l:List (D bA)}(h:¬(6<s.length\/20<l.length)){i:Nat}(hi:i<l.length)(hb:¬nO (nth bA l i)):cN (s,l)=([],.no 1):=by
 unfold cN;rw[if_neg h,if_pos];refine .inr (K5 (t:=bA) hi ?_);simp only[bq,decide_eq_true_eq];unfold nO at hb;dsimp only[D]at*;omega
def wU{s:List Int}{l:List (D bA)}(h:¬(6<s.length\/20<l.length))(hs:∀j,j<s.length->1<=(nth (.int .i64) s j:Int)/\(nth (.int .i64) s j:Int)<=40)(ht:∀j,j<l.length->nO (nth bA l j)) :
  cN (s,l)=match gQ l s []with|some o=>(o,.nil)|none=>([],.no 8):=by
 unfold cN;rw[if_neg h,if_neg];rintro(e|e)
 ·have:AF s=false:=K6 (t:=.int .i64) fun i hi=>by
   have:=hs i hi;simp only[du,decide_eq_false_iff_not];dsimp only[D]at*;omega
  rw[this]at e;cases e
 ·have:AG l=false:=K6 (t:=bA) fun i hi=>by
   have:=ht i hi;unfold nO at this;simp only[du,decide_eq_false_iff_not];dsimp only[D]at*;omega
  rw[this]at e;cases e
end Go.Mrl
namespace Go.Mrl
open Go.Vg
def Sg{l:List (Int×Int×Unit)}{r:Int×Int×Unit}(h:∀y∈l,nO y)(hr:nO r):∀y∈l++[r],nO y:=by
 intro y hy;rcases au.1 hy with hy|hy
 ·exact h y hy
 ·simp at hy;rw[hy];exact hr
end Go.Mrl
namespace Go.Mrl
open Go.Vg
end Go.Mrl
namespace Go.Mrl
open Go.Vg
end Go.Mrl

namespace Go.Mrl
open Go.Vg
def JM{t:Ty}{a b:List (D t)}(hl:a.length=b.length)(h:∀i,i<a.length->nth t a i=nth t b i):a=b:=by
 apply List.ext_getElem hl;intro i h1 h2;have:=h i h1
 rwa [show nth t a i=a[i]from iA (List.getElem?_eq_getElem h1),show nth t b i=b[i]from iA (List.getElem?_eq_getElem h2)]at this
def pk{t:Ty}{a b:List (D t)}{i:Nat}:nth t (a++b) i=if i<a.length then nth t a i else nth t b (i-a.length):=by
 unfold nth;simp only[List.getD_eq_getElem?_getD,List.getElem?_append];split <;> rfl
def AH{t:Ty}{a:List (D t)}{n i:Nat}(h:i<n):nth t (a.take n) i=nth t a i:=by
 unfold nth;simp only[List.getD_eq_getElem?_getD,List.getElem?_take,if_pos h]
@[reducible] def jj:Ty:=.slice (.int .i64)
@[reducible] def ml:Ty:=.slice jj
abbrev Pt:=Int×Int×Int×Unit
abbrev Ws:=List (List Int)
def tT(w:Ws)(p:Pt):Prop:=0<=p.1/\p.1<w.length/\0<=p.2.1/\p.2.1<(nth jj w p.1.toNat).length
def tg(w:Ws)(p:Pt):Ws:=w.set p.1.toNat ((nth jj w p.1.toNat).set p.2.1.toNat p.2.2.1)
def lu(w:Ws)(l:List Pt):Ws:=l.foldl tg w
open Classical in
def iY(x:Ws×List Pt):Ws×aL:=if ∀i,i<x.2.length->tT x.1 (nth aR x.2 i)then(lu x.1 x.2,.nil)else([],.no 1)
def lW{t:Ty}{l:List (D t)}{i j:Nat}{x:D t}(h:¬i=j):nth t (l.set i x) j=nth t l j:=by
 unfold nth;simp only[List.getD_eq_getElem?_getD];rw[List.getElem?_set_ne h]
def lX{t:Ty}{l:List (D t)}{i:Nat}{x:D t}(h:i<l.length):nth t (l.set i x) i=x:=by
 unfold nth;simp only[List.getD_eq_getElem?_getD];rw[List.getElem?_set_self h];rfl
def JN(w:Ws)(p:Pt):(tg w p).length=w.length:=by simp[tg]
def Si(w:Ws)(p:Pt)(i:Nat):nth jj (tg w p) i=if i<w.length/\p.1.toNat=i then(nth jj w i).set p.2.1.toNat p.2.2.1 else nth jj w i:=by
 unfold tg;by_cases c:p.1.toNat=i
 ·subst c
  by_cases c2:p.1.toNat<w.length
  ·rw[if_pos ⟨c2,rfl⟩,lX (t:=jj) c2]
  ·rw[if_neg (fun h=>c2 h.1),List.set_eq_of_length_le (by omega)]
 ·rw[if_neg (fun h=>c h.2),lW (t:=jj) c]
def O4(w:Ws)(p:Pt)(i:Nat):(nth jj (tg w p) i).length=(nth jj w i).length:=by
 rw[Si];split <;> simp
def qi(l:List Pt):∀w:Ws,(lu w l).length=w.length:=by
 induction l with
 |nil=>intro w;rfl
 |cons p l ih=>intro w;show(lu (tg w p) l).length=_;rw[ih,JN]
def wV(l:List Pt):∀(w:Ws) (i:Nat),(nth jj (lu w l) i).length=(nth jj w i).length:=by
 induction l with
 |nil=>intro w i;rfl
 |cons p l ih=>intro w i;show(nth jj (lu (tg w p) l) i).length=_;rw[ih,O4]
def O5(w:Ws)(l:List Pt)(p:Pt):lu w (l++[p])=tg (lu w l) p:=by simp[lu]
def lI{t:Ty}{l:List (D t)}{k:Nat}(h:k<l.length):l.take (k+1)=l.take k++[nth t l k]:=by
 rw[dx,mZ h];rfl
def O6{w:Ws}{l:List Pt}{k:Nat}(h:k<l.length):tg (lu w (l.take k)) (nth aR l k)=lu w (l.take (k+1)):=by
 rw[lI (t:=aR) h,O5]
def yp{w:Ws}{l:List Pt}(h:∀i,i<l.length->tT w (nth aR l i)):iY (w,l)=(lu w l,.nil):=by unfold iY;rw[if_pos h]
def Sj{w:Ws}{l:List Pt}{i:Nat}(hi:i<l.length)(h:¬tT w (nth aR l i)):iY (w,l)=([],.no 1):=by
 unfold iY;rw[if_neg (fun hh=>h (hh i hi))]
def Sk{w:Ws}{l:List Pt}(h:(iY (w,l)).2.isNil=true):∀i,i<l.length->tT w (nth aR l i):=by
 unfold iY at h;split at h
 ·assumption
 ·cases h
def Sl{w:Ws}{l:List Pt}(h:(iY (w,l)).2.isNil=true):(iY (w,l)).1.length=w.length:=by rw[yp (Sk h)];exact qi l w
def Small(x:Int):Prop:=-1000000<=x/\x<=1000000
def Word(x:Int):Prop:=-2147483648<=x/\x<=2147483647
def Ue(o:D aB):Prop:=o.2.2.2.1.length<=10/\(∀i,i<o.2.2.1.length->Small (nth aS o.2.2.1 i).2.1)/\
 ∀i,i<o.2.2.2.1.length->Small (nth bD o.2.2.2.1 i).1/\Word (nth bD o.2.2.2.1 i).2.2.1
def jN(l:List (D aB)):Prop:=l.length<=8/\∀i,i<l.length->Ue (nth aB l i)
def pF(b:List Int):Prop:=∀i,i<b.length->0<=(nth (.int .i64) b i:Int)/\(nth (.int .i64) b i:Int)<=256
def n8(b:List Int)(i:Nat):Int:=nth (.int .i64) b i
def fM(l:List (D aB))(b:List Int)(t:D bD):Int×aL:=
 if 0<=(eB (l,t.2.2.2.1)).1 then(n8 b (eB (l,t.2.2.2.1)).1.toNat+(nth aS (nth aB l (eB (l,t.2.2.2.1)).1.toNat).2.2.1 (eB (l,t.2.2.2.1)).2.toNat).2.1,.nil)
 else if t.2.2.2.2.1=true then(0,.nil)else(0,.no 6)
def km(b:List Int)(i:Int)(t:D bD)(n:Int):Int×aL:=
 if t.2.1=(3:Int)then
  if n-(n8 b i.toNat+t.1)< -500\/500<n-(n8 b i.toNat+t.1)then(0,.no 7)
  else(n-(n8 b i.toNat+t.1),.nil)
 else if n< -2147483648\/2147483647<n then(0,.no 7)else(n,.nil)
def gR(l:List (D aB))(b:List Int)(i:Int)(t:D bD):Int×aL:=
 if t.2.1=(1:Int)then km b i t (n8 b i.toNat+t.2.2.1)
 else if(fM l b t).2.isNil=true then km b i t ((fM l b t).1+t.2.2.1)else(0,(fM l b t).2)
def n9(l:List (D aB))(b:List Int)(i:Nat):List (D bD)->List Pt->List Pt×aL
 |[],out=>(out,.nil)
 |t :: r,out=>if(gR l b i t).2.isNil=true then n9 l b i r (out++[((i:Int),t.1,(gR l b i t).1,())])else([],(gR l b i t).2)
def oy(f:List Pt->List Pt×aL)(x:List Pt×aL):List Pt×aL:=if x.2.isNil=true then f x.1 else([],x.2)
def nP(l:List (D aB))(b:List Int):List (D aB)->Nat->List Pt->List Pt×aL
 |[],_,out=>(out,.nil)
 |o :: r,i,out=>oy (nP l b r (i+1)) (n9 l b i o.2.2.2.1 out)
open Classical in
def iI(x:List (D aB)×List Int):List Pt×aL:=
 if ¬x.2.length=x.1.length then([],.no 3)else if pF x.2 then nP x.1 x.2 x.1 0 []else([],.no 1)
def iJ{t:Ty}{l:List (D t)}{i:Nat}(h:i<l.length):l.drop i=nth t l i :: l.drop (i+1):=by
 rw[eu h];congr 1;have:=mZ h;rw[List.getElem?_eq_getElem h]at this;exact dy this
def O7{l:List (D aB)}{b:List Int}{i:Nat}{out:List Pt}(h:i<l.length) :
  nP l b (l.drop i) i out=oy (nP l b (l.drop (i+1)) (i+1)) (n9 l b i ((nth aB l i).2.2.2.1.drop 0) out):=by
 rw[iJ (t:=aB) h];rfl
def UO{l:List (D aB)}{b:List Int}{i:Nat}{out:List Pt}(h:l.length<=i):nP l b (l.drop i) i out=(out,.nil):=by
 rw[b3 h];rfl
def Wg{l:List (D aB)}{b:List Int}{i k:Nat}{ts:List (D bD)}{out:List Pt}(h:k<ts.length)(hn:(gR l b i (nth bD ts k)).2.isNil=true) :
  n9 l b i (ts.drop k) out=n9 l b i (ts.drop (k+1)) (out++[((i:Int),(nth bD ts k).1,(gR l b i (nth bD ts k)).1,())]):=by
 rw[iJ (t:=bD) h,n9,if_pos hn]
def UP{l:List (D aB)}{b:List Int}{i k:Nat}{ts:List (D bD)}{out:List Pt}{f:List Pt->List Pt×aL}(h:k<ts.length)(hn:(gR l b i (nth bD ts k)).2.isNil=false) :
  oy f (n9 l b i (ts.drop k) out)=([],(gR l b i (nth bD ts k)).2):=by
 rw[iJ (t:=bD) h,n9,if_neg (by simp[hn])];unfold oy;rw[if_neg (by simp[hn])]
def UQ{l:List (D aB)}{b:List Int}{i k:Nat}{ts:List (D bD)}{out:List Pt}{f:List Pt->List Pt×aL}(h:ts.length<=k):oy f (n9 l b i (ts.drop k) out)=f out:=by
 rw[b3 h];rfl
def Dj{l:List (D aB)}{b:List Int}(h:b.length=l.length)(hb:pF b):iI (l,b)=nP l b l 0 []:=by unfold iI;rw[if_neg (by simpa using h),if_pos hb]
def Sm{l:List (D aB)}{b:List Int}(h:¬b.length=l.length):iI (l,b)=([],.no 3):=by unfold iI;rw[if_pos h]
def O8{l:List (D aB)}{b:List Int}{i:Nat}(h:b.length=l.length)(hi:i<b.length)(hn:¬(0<=(nth (.int .i64) b i:Int)/\(nth (.int .i64) b i:Int)<=256)):iI (l,b)=([],.no 1):=by
 unfold iI;rw[if_neg (by simpa using h),if_neg (fun hh=>hn (hh i hi))]
def pT{b:List Int}{n:Nat}{i:Int}(hb:pF b)(hl:b.length=n)(h0:0<=i)(h1:i<n):0<=(nth (.int .i64) b i.toNat:Int)/\(nth (.int .i64) b i.toNat:Int)<=256:=hb _ (by omega)
def O9{l:List (D aB)}{s:List UInt8}(hm:jN l)(h:0<=(eB (l,s)).1):Small (nth aS (nth aB l (eB (l,s)).1.toNat).2.2.1 (eB (l,s)).2.toNat).2.1:=by
 have hf:=yn h;exact(hm.2 _ (by omega)).2.1 _ (by omega)
def B4{l:List (D aB)}{b:List Int}{t:D bD}(h:0<=(eB (l,t.2.2.2.1)).1) :
  fM l b t=(nth (.int .i64) b (eB (l,t.2.2.2.1)).1.toNat+(nth aS (nth aB l (eB (l,t.2.2.2.1)).1.toNat).2.2.1 (eB (l,t.2.2.2.1)).2.toNat).2.1,.nil):=by unfold fM n8;rw[if_pos h]
def y8{l:List (D aB)}{b:List Int}{t:D bD}(h:(eB (l,t.2.2.2.1)).1<0)(hw:t.2.2.2.2.1=true):fM l b t=(0,.nil):=by unfold fM;rw[if_neg (by omega),if_pos hw]
def wW{l:List (D aB)}{b:List Int}{t:D bD}(h:(eB (l,t.2.2.2.1)).1<0)(hw:t.2.2.2.2.1=false):fM l b t=(0,.no 6):=by unfold fM;rw[if_neg (by omega),if_neg (by simp[hw])]
def wX{l:List (D aB)}{b:List Int}(t:D bD)(hm:jN l)(hl:b.length=l.length)(hb:pF b) : -2000000<=(fM l b t).1/\(fM l b t).1<=2000000:=by
 by_cases h:0<=(eB (l,t.2.2.2.1)).1
 ·have h1:=pT hb hl h (yn h).1
  have h2:=O9 hm h;rw[B4 h];unfold Small at h2;dsimp only[D]at*;omega
 ·cases hw:t.2.2.2.2.1 with
  |true=>rw[y8 (by omega) hw];simp
  |false=>rw[wW (by omega) hw];simp
def AI{l:List (D aB)}{b:List Int}{i:Int}{t:D bD}(h:t.2.1=(1:Int)):gR l b i t=km b i t (nth (.int .i64) b i.toNat+t.2.2.1):=by unfold gR;rw[if_pos h];rfl
def yq{l:List (D aB)}{b:List Int}{i:Int}{t:D bD}(h:¬t.2.1=(1:Int))(hn:(fM l b t).2.isNil=true):gR l b i t=km b i t ((fM l b t).1+t.2.2.1):=by unfold gR;rw[if_neg h,if_pos hn]
def UR{l:List (D aB)}{b:List Int}{i:Int}{t:D bD}(h:¬t.2.1=(1:Int))(hn:(fM l b t).2.isNil=false):gR l b i t=(0,(fM l b t).2):=by unfold gR;rw[if_neg h,if_neg (by simp[hn])]
def Sn{b:List Int}{i n:Int}{t:D bD}(h:t.2.1=(3:Int))(hr:n-(nth (.int .i64) b i.toNat+t.1)< -500\/500<n-(nth (.int .i64) b i.toNat+t.1)):km b i t n=(0,.no 7):=by
 unfold km n8;rw[if_pos h,if_pos hr]
def US{b:List Int}{i n m:Int}{t:D bD}(h:t.2.1=(3:Int))(e:m=n-(nth (.int .i64) b i.toNat+t.1))(hr : -500<=m/\m<=500):km b i t n=(m,.nil):=by
 unfold km n8;rw[if_pos h,if_neg (by omega),e]
def He{b:List Int}{i n:Int}{t:D bD}(h:¬t.2.1=(3:Int))(hr:n< -2147483648\/2147483647<n):km b i t n=(0,.no 7):=by
 unfold km;rw[if_neg h,if_pos hr]
def Dl{b:List Int}{i n m:Int}{t:D bD}(h:¬t.2.1=(3:Int))(e:m=n)(hr : -2147483648<=n/\n<=2147483647):km b i t n=(m,.nil):=by
 unfold km;rw[if_neg h,if_neg (by omega),e]
def Told(e:aL):Prop:=ym e (kW e)=true
def En(b:List Int)(i n:Int)(t:D bD):Told (km b i t n).2:=by
 unfold km;split <;> split <;> rfl
def JO(l:List (D aB))(b:List Int)(t:D bD):Told (fM l b t).2:=by
 unfold fM;split
 ·rfl
 ·split <;> rfl
def Sp(l:List (D aB))(b:List Int)(i:Int)(t:D bD):Told (gR l b i t).2:=by
 unfold gR;split
 ·exact En _ _ _ _
 ·split
  ·exact En _ _ _ _
  ·exact JO _ _ _
def Hf(l:List (D aB))(b:List Int)(i:Nat):∀(ts:List (D bD)) (out:List Pt),Told (n9 l b i ts out).2
 |[],_=>rfl
 |t :: r,out=>by
  rw[n9];split
  ·exact Hf l b i r _
  ·exact Sp _ _ _ _
def Hg(l:List (D aB))(b:List Int):∀(os:List (D aB)) (i:Nat) (out:List Pt),Told (nP l b os i out).2
 |[],_,_=>rfl
 |o :: r,i,out=>by
  rw[nP];unfold oy;split
  ·exact Hg l b r _ _
  ·exact Hf _ _ _ _ _
def Hh(x:List (D aB)×List Int):ym (iI x).2 (kW (iI x).2)=true:=by
 unfold iI;split
 ·rfl
 ·split
  ·exact Hg _ _ _ _ _
  ·rfl
def ie(n:Int):Bool:=decide (-2147483648<=n)&&decide (n<=2147483647)
def jy:List (List UInt8)->List (List UInt8)->Int
 |_,[]=>0
 |p,s :: r=>if aP s > 0 then aP s else if p.any (· == s)=true then 3 else jy (p++[s]) r
def kL:List Int->Int
 |[]=>0
 |n :: r=>if ie n=true then kL r else 1
def ig(n:Nat):List (D aS)->List (D aS)->Int
 |_,[]=>0
 |p,s :: r=>if aP s.1 > 0 then aP s.1 else if s.2.1<0\/s.2.1>=(n:Int)then 1 else if p.any (fun x=>x.1 == s.1)=true then 3 else ig n (p++[s]) r
def od(a:Int):Option Int->Bool
 |some b=>decide (a<=b)
 |none=>false
def nc(n:Nat)(prev:Option Int)(t:D bD):Int:=
 if t.1<0\/t.1>=(n:Int)\/ie t.2.2.1=false then 1
 else if t.2.1<1\/t.2.1 > 3\/od t.1 prev=true then 3
 else if t.2.1=1 then(if t.2.2.2.1≠[]\/t.2.2.2.2.1=true then 3 else 0)
 else aP t.2.2.2.1
def kM(n:Nat):Option Int->List (D bD)->Int
 |_,[]=>0
 |prev,t :: r=>if nc n prev t≠0 then nc n prev t else kM n (some t.1) r
def lY(o:D aB):Prop:=o.1.length > 4\/o.2.1.length<1\/o.2.1.length > 40\/o.2.2.1.length > 8\/o.2.2.2.1.length > 6
instance(o:D aB):Decidable (lY o):=by unfold lY;infer_instance
def cZ(o:D aB):Int:=
 if lY o then 2 else if jy [] o.1≠0 then jy [] o.1 else if kL o.2.1≠0 then kL o.2.1
 else if ig o.2.1.length [] o.2.2.1≠0 then ig o.2.1.length [] o.2.2.1 else kM o.2.1.length none o.2.2.2.1
def gY{t:Ty}{l:List (D t)}{i:Nat}(h:i<l.length):l.take (i+1)=l.take i++[nth t l i]:=by
 rw[dx];congr 1;unfold nth;simp[h]
def wY(n:Nat):∀(l p:List (D aS)),0<=ig n p l
 |[],_=>az _
 |s :: r,p=>by
  unfold ig;split
  ·omega
  ·split
   ·decide
   ·split
    ·decide
    ·exact wY n r _
structure j9 (l:List (List UInt8)) (i:Nat):Prop where
 le:i<=l.length
 eq:jy (l.take i) (l.drop i)=jy [] l
def j9.zero(l:List (List UInt8)):j9 l 0:=⟨ar _,rfl⟩
def j9.fault{l:List (List UInt8)}{i:Nat}(h:j9 l i)(hi:i<l.length)(hf:aP (nth .str l i) > 0):jy [] l=aP (nth .str l i):=by
 rw[<-h.eq,iJ (t:=.str) hi];unfold jy;rw[if_pos hf]
def j9.dup{l:List (List UInt8)}{i:Nat}(h:j9 l i)(hi:i<l.length)(hf:aP (nth .str l i)<=0)(ha:(l.take i).any (· == nth .str l i)=true):jy [] l=3:=by
 rw[<-h.eq,iJ (t:=.str) hi];unfold jy;rw[if_neg (by omega),if_pos ha]
def j9.next{l:List (List UInt8)}{i:Nat}(h:j9 l i)(hi:i<l.length)(hf:aP (nth .str l i)<=0)(ha:(l.take i).any (· == nth .str l i)=false):j9 l (i+1):=by
 refine⟨hi,?_⟩;rw[<-h.eq,iJ (t:=.str) hi,gY (t:=.str) hi]
 conv=>rhs;unfold jy
 rw[if_neg (by omega),if_neg (by rw[ha];decide)]
def j9.done{l:List (List UInt8)}{i:Nat}(h:j9 l i)(hi:¬i<l.length):jy [] l=0:=by
 rw[<-h.eq,b3 (by omega)];rfl
structure ly (l:List Int) (i:Nat):Prop where
 le:i<=l.length
 eq:kL (l.drop i)=kL l
def ly.zero(l:List Int):ly l 0:=⟨ar _,rfl⟩
def ly.fault{l:List Int}{i:Nat}(h:ly l i)(hi:i<l.length)(hf:ie (nth (.int .i64) l i)=false):kL l=1:=by
 rw[<-h.eq,iJ (t:=.int .i64) hi];unfold kL;rw[if_neg (by rw[hf];decide)]
def ly.next{l:List Int}{i:Nat}(h:ly l i)(hi:i<l.length)(hf:ie (nth (.int .i64) l i)=true):ly l (i+1):=by
 refine⟨hi,?_⟩;rw[<-h.eq,iJ (t:=.int .i64) hi]
 conv=>rhs;unfold kL
 rw[if_pos hf]
def ly.done{l:List Int}{i:Nat}(h:ly l i)(hi:¬i<l.length):kL l=0:=by
 rw[<-h.eq,b3 (by omega)];rfl
structure kO (n:Nat) (l:List (D aS)) (i:Nat):Prop where
 le:i<=l.length
 eq:ig n (l.take i) (l.drop i)=ig n [] l
def kO.zero(n:Nat)(l:List (D aS)):kO n l 0:=⟨ar _,rfl⟩
def kO.fault{n:Nat}{l:List (D aS)}{i:Nat}(h:kO n l i)(hi:i<l.length)(hf:aP (nth aS l i).1 > 0):ig n [] l=aP (nth aS l i).1:=by
 rw[<-h.eq,iJ (t:=aS) hi];unfold ig;rw[if_pos hf]
def kO.out{n:Nat}{l:List (D aS)}{i:Nat}(h:kO n l i)(hi:i<l.length)(hf:aP (nth aS l i).1<=0)(ho:(nth aS l i).2.1<0\/(nth aS l i).2.1>=(n:Int)):ig n [] l=1:=by
 rw[<-h.eq,iJ (t:=aS) hi];unfold ig;rw[if_neg (by omega),if_pos ho]
def kO.dup{n:Nat}{l:List (D aS)}{i:Nat}(h:kO n l i)(hi:i<l.length)(hf:aP (nth aS l i).1<=0)(ho:¬((nth aS l i).2.1<0\/(nth aS l i).2.1>=(n:Int)))
  (ha:(l.take i).any (fun x=>x.1 == (nth aS l i).1)=true):ig n [] l=3:=by
 rw[<-h.eq,iJ (t:=aS) hi];unfold ig;rw[if_neg (by omega),if_neg ho,if_pos ha]
def kO.next{n:Nat}{l:List (D aS)}{i:Nat}(h:kO n l i)(hi:i<l.length)(hf:aP (nth aS l i).1<=0)(ho:¬((nth aS l i).2.1<0\/(nth aS l i).2.1>=(n:Int)))
  (ha:(l.take i).any (fun x=>x.1 == (nth aS l i).1)=false):kO n l (i+1):=by
 refine⟨hi,?_⟩;rw[<-h.eq,iJ (t:=aS) hi,gY (t:=aS) hi]
 conv=>rhs;unfold ig
 rw[if_neg (by omega),if_neg ho,if_neg (by rw[ha];decide)]
def kO.done{n:Nat}{l:List (D aS)}{i:Nat}(h:kO n l i)(hi:¬i<l.length):ig n [] l=0:=by
 rw[<-h.eq,b3 (by omega)];rfl
def oz(l:List (D bD))(i:Nat):Option Int:=if i=0 then none else some (nth bD l (i-1)).1
structure nG (n:Nat) (l:List (D bD)) (i:Nat):Prop where
 le:i<=l.length
 eq:kM n (oz l i) (l.drop i)=kM n none l
def nG.zero(n:Nat)(l:List (D bD)):nG n l 0:=⟨ar _,rfl⟩
def nG.fault{n:Nat}{l:List (D bD)}{i:Nat}(h:nG n l i)(hi:i<l.length){f:Int}(hf:nc n (oz l i) (nth bD l i)=f)(h0:f≠0):kM n none l=f:=by
 rw[<-h.eq,iJ (t:=bD) hi];unfold kM;rw[if_pos (by rw[hf];exact h0),hf]
def nG.next{n:Nat}{l:List (D bD)}{i:Nat}(h:nG n l i)(hi:i<l.length)(hf:nc n (oz l i) (nth bD l i)=0):nG n l (i+1):=by
 refine⟨hi,?_⟩;rw[<-h.eq,iJ (t:=bD) hi]
 conv=>rhs;unfold kM
 rw[if_neg (by rw[hf];decide)];rfl
def nG.done{n:Nat}{l:List (D bD)}{i:Nat}(h:nG n l i)(hi:¬i<l.length):kM n none l=0:=by
 rw[<-h.eq,b3 (by omega)];rfl
def Hi{t:Ty}{l:List (D t)}{i j:Nat}{f:D t->Bool}(hj:j<i)(hi:i<=l.length)(h:f (nth t l j)=true):(l.take i).any f=true:=by
 rw[cw];refine⟨nth t l j,?_,h⟩;have:(l.take i)[j]?=some (nth t l j):=by
  rw[List.getElem?_take,if_pos hj];unfold nth;rw[List.getD_eq_getElem?_getD,List.getElem?_eq_getElem (by omega)];rfl
 exact br this
def Eo{t:Ty}{l:List (D t)}{i:Nat}{f:D t->Bool}(h:∀j,j<i->f (nth t l j)=false):(l.take i).any f=false:=by
 rw[cy];intro x hx;obtain⟨j,hj,rfl⟩:=dw hx;rw[bh]at hj;have:=h j (by omega);rw[List.getElem_take];have e:nth t l j=l[j]'(by omega):=by unfold nth;simp[show j<l.length by omega]
 rw[e]at this;rw[this];decide
def contains_of{l:List (List UInt8)}{s:List UInt8}{y:Int}(h:(y= -1/\∀j,j<l.length->nth .str l j≠s)\/(0<=y/\y.toNat<l.length/\nth .str l y.toNat=s)):decide (y>=0)=l.any (· == s):=by
 rcases h with⟨rfl,h⟩|⟨h1,h2,h3⟩
 ·have:=Eo (t:=.str) (l:=l) (i:=l.length) (f:=(· == s)) fun j hj=>by simpa using h j hj
  rw[cb]at this;rw[this];rfl
 ·have:=Hi (t:=.str) (l:=l) (i:=l.length) (f:=(· == s)) h2 (ak _) (by simpa using h3)
  rw[cb]at this;rw[this];simpa using h1
def JP{o:D aB}(h:lY o):cZ o=2:=by unfold cZ;rw[if_pos h]
def wZ{o:D aB}(h:¬lY o){f:Int}(hf:jy [] o.1=f)(h0:f≠0):cZ o=f:=by unfold cZ;rw[if_neg h,if_pos (by rw[hf];exact h0),hf]
def Hj{o:D aB}(h:¬lY o)(h1:jy [] o.1=0){f:Int}(hf:kL o.2.1=f)(h0:f≠0):cZ o=f:=by
 unfold cZ;rw[if_neg h,if_neg (by rw[h1];decide),if_pos (by rw[hf];exact h0),hf]
def JQ{o:D aB}(h:¬lY o)(h1:jy [] o.1=0)(h2:kL o.2.1=0){f:Int}(hf:ig o.2.1.length [] o.2.2.1=f)(h0:f≠0):cZ o=f:=by
 unfold cZ;rw[if_neg h,if_neg (by rw[h1];decide),if_neg (by rw[h2];decide),if_pos (by rw[hf];exact h0),hf]
def JR{o:D aB}(h:¬lY o)(h1:jy [] o.1=0)(h2:kL o.2.1=0)(h3:ig o.2.1.length [] o.2.2.1=0){f:Int}(hf:kM o.2.1.length none o.2.2.2.1=f):cZ o=f:=by
 unfold cZ;rw[if_neg h,if_neg (by rw[h1];decide),if_neg (by rw[h2];decide),if_neg (by rw[h3];decide),hf]
abbrev aD:=List UInt8
def pG(a b:aD):Prop:=bu a b=true
def Hk(a:UInt8):¬a<a:=fun h=>by have:=dz.1 h;omega
def pn:∀a:aD,¬pG a a
 |[]=>fun h=>by cases h
 |a :: x=>fun h=>by
  unfold pG at h;simp only[bu,bq,decide_eq_true_eq,af]at h;rcases h with h|⟨_,h⟩
  ·exact Hk a h
  ·exact pn x h
def w4:∀{a b c:aD},pG a b->pG b c->pG a c
 |a,[],_,h,_=>by unfold pG at h;cases a <;> simp[bu]at h
 |_,_ :: _,[],_,h=>by unfold pG at h;simp[bu]at h
 |[],_ :: _,_ :: _,_,_=>rfl
 |a :: x,b :: y,c :: z,h1,h2=>by
  unfold pG at h1 h2 ⊢;simp only[bu,bq,decide_eq_true_eq,af,beq_iff_eq]at h1 h2 ⊢;rcases h1 with h1|⟨rfl,h1⟩
  ·rcases h2 with h2|⟨rfl,h2⟩
   ·left;rw[dz]at*;omega
   ·exact .inl h1
  ·rcases h2 with h2|⟨rfl,h2⟩
   ·exact .inl h2
   ·exact .inr ⟨rfl,w4 h1 h2⟩
def w5:∀{a b:aD},¬pG a b->¬pG b a->a=b
 |[],[],_,_=>rfl
 |[],_ :: _,h,_=>(h rfl).elim
 |_ :: _,[],_,h=>(h rfl).elim
 |a :: x,b :: y,h1,h2=>by
  unfold pG at h1 h2;simp only[bu,bq,decide_eq_true_eq,af,beq_iff_eq,not_or,not_and]at h1 h2;have hab:a=b:=by
   apply UInt8.toNat_inj.1;have h3:=h1.1;have h4:=h2.1;rw[dz]at h3 h4;omega
  subst hab;rw[w5 (h1.2 rfl) (h2.2 rfl)]
def B5(a b:aD):Prop:=¬pG b a
def Hl(a:aD):B5 a a:=pn a
def Ep{a b:aD}(h:pG a b):B5 a b:=fun h'=>pn a (w4 h h')
def Pa{a b c:aD}(h1:B5 a b)(h2:B5 b c):B5 a c:=by
 intro h;by_cases hab:pG a b
 ·exact h2 (w4 h hab)
 ·have:=w5 hab h1;subst this;exact h2 h
def w6{a b:aD}(h1:B5 a b)(h2:a≠b):pG a b:=aq fun h=>h2 (w5 h h1)
abbrev Dk:=(Int×Bool×Unit)×(List (List UInt8)×(List (List UInt8)×(List (Int×List UInt8×Unit)×Unit)))
def w7(x:Int×Int):Int×Int:=(0,x.1*x.2)
def eI(s:List UInt8):List UInt8:=s++bb (64-s.length) 0
def stepOf(d:Dk):Dk×Int:=
 if d.1.2.1=true then(d,9)else if d.1.1=0 then(((-1,true,()),d.2),9)else(((if 0<d.1.1 then d.1.1-1 else d.1.1,false,()),d.2),0)
def bL(d:Dk)(at_:Int)(s:List UInt8):Dk×Int:=
 if at_<0\/(d.2.2.1.length:Int)<=at_\/64<s.length then(d,1)
 else if(stepOf d).2=0 then(((stepOf d).1.1,d.2.1,d.2.2.1.set at_.toNat (eI s),d.2.2.2.1++[(at_,eI s,())],()),0)else stepOf d
def qk(d:Dk)(at_:Int):List UInt8×Int:=
 if d.1.2.1=true then([],9)else if at_<0\/(d.2.2.1.length:Int)<=at_ then([],1)else(nth .str d.2.2.1 at_.toNat,0)
def bO(d:Dk):Dk×Int:=
 if(stepOf d).2=0 then(((stepOf d).1.1,d.2.2.1,d.2.2.1,[],()),0)else stepOf d
def Wh(d:Dk)(n:Int):Dk:=((L7 n (-1),d.1.2.1,()),d.2)
def Gf(k:Int)(i:Nat):Prop:=(dT .u64 ((b4 a7.bits (k.fdiv (2^(i % 64)))&&&b4 a7.bits 1).toNat:Int))=1
open Classical in
def kP(k:Int)(wait:List (Int×List UInt8×Unit))(kept:List (List UInt8)):Nat->List (List UInt8)
 |0=>kept
 |n+1=>if Gf k n then(kP k wait kept n).set (nth js wait n).1.toNat (nth js wait n).2.1 else kP k wait kept n
def Hm(d:Dk)(k:Int):Dk:=
 ((-1,false,()),kP k d.2.2.2.1 d.2.1 d.2.2.2.1.length,kP k d.2.2.2.1 d.2.1 d.2.2.2.1.length,[],())
def qT(n:Int):Dk:=((-1,false,()),bb n.toNat (eI []),bb n.toNat (eI []),[],())
def w8(k:Int)(wait:List (Int×List UInt8×Unit))(kept:List (List UInt8)):∀n,(kP k wait kept n).length=kept.length
 |0=>rfl
 |n+1=>by unfold kP;split <;> simp[w8 k wait kept n]
def eW(d:Dk):(stepOf d).1.2=d.2:=by
 unfold stepOf;split
 ·rfl
 ·split <;> rfl
def My(n:Nat):bytesOf (bb n 0)=bb n 0:=by
 unfold bytesOf;rw[List.map_replicate];rfl
def lz{a:Int}(h0:0<=a)(h:a<18446744073709551616):a7.wrap a=a:=
 x4 (by simp[dp,dq,dr,dt];omega)
def Hn{a:Int}(h0:0<=a)(h:a<18446744073709551616):(b4 a7.bits a).toNat=a.toNat:=by
 rw[BitVec.toNat_ofInt];show(a % (2^64:Nat)).toNat=a.toNat;rw[Int.emod_eq_of_lt h0 (by simpa using h)]
def Sq{a x:Int}(hx:x=dT .u64 ((b4 a7.bits a&&&b4 a7.bits 4294967295).toNat:Int))(h0:0<=a)(h:a<4294967296):x=a:=by
 rw[BitVec.toNat_and,Hn h0 (by omega),Hn (by omega) (by omega)]at hx;rw[show(4294967295:Int).toNat=2^32-1 from rfl,Nat.and_two_pow_sub_one_eq_mod,Nat.mod_eq_of_lt (by omega),ew h0,lz h0 (by omega)]at hx;exact hx
def Ho{a x:Int}{n:Nat}(hx:x=a.fdiv (2^(min n a7.bits)))(hn:n=32)(h0:0<=a)(h:a<4294967296):x=0:=by
 subst hn;rw[show min 32 a7.bits=32 from rfl,Int.fdiv_eq_ediv_of_nonneg _ (by decide),Int.ediv_eq_zero_of_lt h0 (by simpa using h)]at hx;exact hx
def lZ(s:List UInt8)(n k:Nat):List (List UInt8):=bb k s++bb (n-k) []
def Hp{s:List UInt8}{n k:Nat}(h:k<=n):(lZ s n k).length=n:=by simp[lZ];omega
def Mz{s:List UInt8}{n:Nat}(hn:0<n){k:Nat}(hk:k=1)(x:List (List UInt8))(hx:x=[s]):(bb n ([]:List UInt8)).take 0++x.take k++(bb n []).drop (0+k)=lZ s n 1:=by
 subst hk;subst hx;simp[lZ]
def Pb{s:List UInt8}{n k m:Nat}(hk:k+m<=n)(hm:m<=k):(lZ s n k).take k++((lZ s n k).take k).take m++(lZ s n k).drop (k+m)=lZ s n (k+m):=by
 have h1:(lZ s n k).take k=bb k s:=by
  unfold lZ;rw[List.take_append_of_le_length (by simp),cg (by simp)]
 rw[h1,List.take_replicate,c7 hm];unfold lZ;rw[List.drop_append,List.drop_of_length_le (by simp),ey,List.drop_replicate,List.length_replicate,<-List.replicate_append_replicate];rw[show n-k-(k+m-k)=n-(k+m) by omega]
def Pc{s:List UInt8}{n:Nat}:lZ s n n=bb n s:=by simp[lZ]
def aK{n:Int}:(aJ n).isNil=true↔n=0:=by
 unfold aJ;split
 ·rename_i h;simp[h,aL.isNil]
 ·rename_i h;simp[h,aL.isNil]
def MA{d:Dk}{at_:Int}{s:List UInt8}(h:at_<0\/(d.2.2.1.length:Int)<=at_\/64<s.length):bL d at_ s=(d,1):=by unfold bL;rw[if_pos h]
def JS{d:Dk}{at_:Int}{s:List UInt8}(h:¬(at_<0\/(d.2.2.1.length:Int)<=at_\/64<s.length))(h2:¬(stepOf d).2=0):bL d at_ s=stepOf d:=by unfold bL;rw[if_neg h,if_neg h2]
def Pd{d:Dk}{at_:Int}{s:List UInt8}(h:¬(at_<0\/(d.2.2.1.length:Int)<=at_\/64<s.length))(h2:(stepOf d).2=0) :
  bL d at_ s=(((stepOf d).1.1,d.2.1,d.2.2.1.set at_.toNat (eI s),d.2.2.2.1++[(at_,eI s,())],()),0):=by unfold bL;rw[if_neg h,if_pos h2]
def UT{t:Ty}{l:List (D t)}{i:Nat}{x:D t}(h:i<l.length):nth t (l.set i x) i=x:=by
 unfold nth;simp[List.getD_eq_getElem?_getD,h]
def Hq{a b:List (List UInt8)}(h:a.length=b.length):a.take 0++b.take (min b.length a.length)++a.drop (0+min b.length a.length)=b:=by
 rw[h,Nat.min_self];simp[h]
def Sr{k:Int}{i n:Nat}{x y:Int}(hx:x=k.fdiv (2^(min n a7.bits)))(hn:n=i % 64)(hy:y=dT .u64 ((b4 a7.bits x&&&b4 a7.bits 1).toNat:Int)):y=1↔Gf k i:=by
 subst hn;have:min (i % 64) a7.bits=i % 64:=c7 (by show i % 64<=64;omega);rw[this]at hx;subst hx;subst hy;exact Iff.rfl
def Ss{k:Int}{wait:List (Int×List UInt8×Unit)}{kept:List (List UInt8)}{n:Nat}(h:Gf k n):(kP k wait kept n).set (nth js wait n).1.toNat (nth js wait n).2.1=kP k wait kept (n+1):=by
 rw[kP,if_pos h]
def Pe{k:Int}{wait:List (Int×List UInt8×Unit)}{kept:List (List UInt8)}{n:Nat}(h:¬Gf k n):kP k wait kept n=kP k wait kept (n+1):=by
 rw[kP,if_neg h]
def JT{d:Dk}(h:d.1.2.1=true):stepOf d=(d,9):=by unfold stepOf;rw[if_pos h]
def JU{d:Dk}(h:d.1.2.1=false)(h0:d.1.1=0):stepOf d=(((-1,true,()),d.2),9):=by unfold stepOf;rw[if_neg (by rw[h];decide),if_pos h0]
def Pf{d:Dk}(h:d.1.2.1=false)(h0:¬d.1.1=0)(hf : -1<=d.1.1):stepOf d=(((if(-1:Int) > d.1.1-1 then(-1:Int)else d.1.1-1,d.1.2.1,()),d.2),0):=by
 unfold stepOf;rw[if_neg (by rw[h];decide),if_neg h0,h];by_cases c:0<d.1.1
 ·rw[if_pos c,if_neg (by omega)]
 ·rw[if_neg c,if_pos (by omega),show d.1.1= -1 by omega]
def MB{d:Dk}{a:Int}(h:d.1.2.1=true):qk d a=([],9):=by unfold qk;rw[if_pos h]
def Pg{d:Dk}{a:Int}(h:d.1.2.1=false)(h2:a<0\/(d.2.2.1.length:Int)<=a):qk d a=([],1):=by unfold qk;rw[if_neg (by rw[h];decide),if_pos h2]
def Su{d:Dk}{a:Int}(h:d.1.2.1=false)(h2:¬(a<0\/(d.2.2.1.length:Int)<=a)):qk d a=(nth .str d.2.2.1 a.toNat,0):=by unfold qk;rw[if_neg (by rw[h];decide),if_neg h2]
def Er{d:Dk}(h:(stepOf d).2=0):bO d=(((stepOf d).1.1,d.2.2.1,d.2.2.1,[],()),0):=by unfold bO;rw[if_pos h]
def y9{d:Dk}(h:¬(stepOf d).2=0):bO d=stepOf d:=by unfold bO;rw[if_neg h]
def Uf(i:Nat):cc ((i:Int).tmod 64)=i % 64:=by rw[ez (by omega)];omega
def lA{a:Int}(h0 : -9223372036854775808<=a)(h:a<9223372036854775808):IntKind.i64.wrap a=a:=
 x4 (by rw[rp];unfold aM;omega)
end Go.Mrl
namespace Go.Mrl
open Go.Vg
def rW(e:D aC):Prop:=e.1.length<=20/\e.2.1.length<=8/\e.2.2.1.length<=40/\∀i,i<e.2.1.length->(nth aH e.2.1 i).1.length<=20
def w9(a:D cQ):Prop:=a.2.1.length<=100/\a.2.2.1.length<=1300/\rW a.2.2.2.2.2.1
def pU(l:List (D cQ))(m:Int):Prop:=(l.length:Int)<=m/\∀i,i<l.length->w9 (nth cQ l i)
end Go.Mrl

namespace Go.Mrl
open Go.Vg
@[reducible] def cI:Ty:=.prod .str (.prod (.int .i64) .unit)
abbrev FE:=aD×(aD×Int×Unit)×Int×Unit
abbrev cH:=(Int×Unit)×(List FE×Int×Unit)×Unit
def ql(y:FE):Int:=y.2.2.1
def po(y:FE):aD:=y.1
def aG(x:cH)(s:aD):aD×Int×Int:=
 if cX cI x.2.1.1 s=true then((iW cI x.2.1.1 s).1,(iW cI x.2.1.1 s).2.1,0)else([],0,5)
def cL(x:cH)(s t:aD):cH×Int:=
 if ¬aP s=0 then(x,aP s)else if 1200<t.length then(x,2)
 else if(cX cI x.2.1.1 s=false/\x.2.1.1.length=6)\/x.1.1=1000000 then(x,8)
 else(((x.1.1+1,()),(eU cI x.2.1.1 s (t,x.1.1+1,()) x.2.1.2.1,mT cI x.2.1.1 s x.2.1.2.1,()),()),0)
def fE(x:cH)(s:aD):cH×Int:=
 if cX cI x.2.1.1 s=true then((x.1,(fU cI x.2.1.1 s,x.2.1.2.1,()),()),0)else(x,5)
def qm:cH:=((0,()),([],0,()),())
def lJ{x:cH}{s:aD}(h:cX cI x.2.1.1 s=false):aG x s=([],0,5):=by unfold aG;rw[if_neg (by rw[h];simp)]
def pq{x:cH}{s:aD}(h:cX cI x.2.1.1 s=true):aG x s=((iW cI x.2.1.1 s).1,(iW cI x.2.1.1 s).2.1,0):=by unfold aG;rw[if_pos h]
def xa{x:cH}{s t:aD}(h:¬aP s=0):cL x s t=(x,aP s):=by unfold cL;rw[if_pos h]
def xb{x:cH}{s t:aD}(h:aP s=0)(h1:1200<t.length):cL x s t=(x,2):=by unfold cL;rw[if_neg (by simp[h]),if_pos h1]
def xc{x:cH}{s t:aD}(h:aP s=0)(h1:¬1200<t.length)(h2:(cX cI x.2.1.1 s=false/\x.2.1.1.length=6)\/x.1.1=1000000):cL x s t=(x,8):=by unfold cL;rw[if_neg (by simp[h]),if_neg h1,if_pos h2]
def B6{x:cH}{s t:aD}(h:aP s=0)(h1:¬1200<t.length)(h2:¬((cX cI x.2.1.1 s=false/\x.2.1.1.length=6)\/x.1.1=1000000)) :
  cL x s t=(((x.1.1+1,()),(eU cI x.2.1.1 s (t,x.1.1+1,()) x.2.1.2.1,mT cI x.2.1.1 s x.2.1.2.1,()),()),0):=by unfold cL;rw[if_neg (by simp[h]),if_neg h1,if_neg h2]
def mB{x:cH}{s:aD}(h:cX cI x.2.1.1 s=false):fE x s=(x,5):=by unfold fE;rw[if_neg (by rw[h];simp)]
def lB{x:cH}{s:aD}(h:cX cI x.2.1.1 s=true):fE x s=((x.1,(fU cI x.2.1.1 s,x.2.1.2.1,()),()),0):=by unfold fE;rw[if_pos h]
theorem Es{α:Type}[DecidableEq α]:∀{a b:List α},a.Nodup->(∀y∈a,y∈b)->a.length<=b.length
 |[],_,_,_=>by simp
 |x :: a,b,hn,hs=>by
  have hn':=ch.1 hn;have h1:(b.erase x).length=b.length-1:=List.length_erase_of_mem (hs x (by simp));have h2:0<b.length:=List.length_pos_of_mem (hs x (by simp));have:=Es (b:=b.erase x) hn'.2 fun y hy=>(List.mem_erase_of_ne (fun(e:y=x)=>hn'.1 (by rw[<-e];exact hy))).2 (hs y (by simp[hy]))
  simp only[cj];omega
abbrev RF:=aD×aD×Int×Unit
abbrev RS:=List RF×Int×Unit
def yr(y:RF):aD:=y.1
def kn(s:aD)(y:RF):Bool:=!(y.1 == s)
def re:List RF->aD->aD×Int×Int
 |[],_=>([],0,5)
 |y :: r,s=>if y.1=s then(y.2.1,y.2.2.1,0)else re r s
def th(s:aD)(e:RF):List RF->List RF
 |[]=>[e]
 |y :: r=>if(bu s y.1 || s == y.1)=true then e :: (y :: r).filter (kn s)else y :: th s e r
def tU(x:RS)(s t:aD):RS×Int:=
 if ¬aP s=0 then(x,aP s)else if 1200<t.length then(x,2)
 else if(0<(re x.1 s).2.2/\x.1.length=6)\/x.2.1=1000000 then(x,8)
 else((th s (s,t,x.2.1+1,()) x.1,x.2.1+1,()),0)
def yt(x:RS)(s:aD):RS×Int:=if(x.1.filter (kn s)).length=x.1.length then(x,5)else((x.1.filter (kn s),x.2),0)
def sH(y:FE):RF:=(y.1,y.2.1.1,y.2.1.2.1,())
def tV(L:List RF):Prop:=L.Pairwise fun a b=>pG a.1 b.1
structure gu (x:cH) (r:RS):Prop where
 now:r.2.1=x.1.1
 lo:0<=x.1.1
 hi:x.1.1<=1000000
 len:x.2.1.1.length<=6
 born:(x.2.1.1.map ql).Nodup
 old:∀y∈x.2.1.1,ql y<x.2.1.2.1
 Hr:tV r.1
 perm:r.1.Perm (x.2.1.1.map sH)
def gu.new:gu qm ([],0,()):=⟨rfl,az _,by decide,by decide,by decide,fun y hy=>by simp[qm]at hy,.nil,.refl _⟩
def xe{L:List RF}(h:tV L):(L.map yr).Nodup:=by
 unfold List.Nodup;rw[List.pairwise_map];exact h.imp fun hlt e=>by unfold yr at e;rw[e]at hlt;exact pn _ hlt
def gu.names{x:cH}{r:RS}(h:gu x r):(x.2.1.1.map po).Nodup:=by
 have h1:=(h.perm.map yr).nodup_iff.1 (xe h.Hr);rw[dn]at h1;exact h1
def Et:∀{L:List RF} {s:aD},(L.map yr).Nodup->∀y∈L,y.1=s->re L s=(y.2.1,y.2.2.1,0)
 |[],_,_,_,h,_=>by simp at h
 |z :: r,s,hn,y,hy,e=>by
  simp only[aj,ch]at hn;unfold re;rcases ag.1 hy with rfl|hy
  ·rw[if_pos e]
  ·have:¬z.1=s:=fun e2=>hn.1 (by rw[show yr z=yr y from e2.trans e.symm];exact bw hy)
   rw[if_neg this];exact Et hn.2 y hy e
def Hs:∀{L:List RF} {s:aD},(∀y∈L,¬y.1=s)->re L s=([],0,5)
 |[],_,_=>rfl
 |z :: r,s,h=>by
  unfold re;rw[if_neg (h z (by simp))];exact Hs fun y hy=>h y (by simp[hy])
def l5:∀{es:List FE} {s:aD},cX cI es s=true↔∃y∈es,y.1=s
 |[],_=>by simp[cX]
 |z :: r,s=>by
  unfold cX;by_cases c:z.1=s
  ·simp[c]
  ·rw[if_neg c,l5];simp[c]
def uY:∀{es:List FE} {s:aD},(es.map po).Nodup->∀y∈es,y.1=s->iW cI es s=y.2.1
 |[],_,_,_,h,_=>by simp at h
 |z :: r,s,hn,y,hy,e=>by
  simp only[aj,ch]at hn;unfold iW;rcases ag.1 hy with rfl|hy
  ·rw[if_pos e]
  ·have:¬z.1=s:=fun e2=>hn.1 (by rw[show po z=po y from e2.trans e.symm];exact bw hy)
   rw[if_neg this];exact uY hn.2 y hy e
def gu.read{x:cH}{r:RS}(h:gu x r)(s:aD):aG x s=re r.1 s:=by
 by_cases c:cX cI x.2.1.1 s=true
 ·obtain⟨y,hy,e⟩:=l5.1 c
  rw[pq c,uY h.names y hy e];exact(Et (xe h.Hr) (sH y) (h.perm.mem_iff.2 (bw hy)) e).symm
 ·rw[lJ (by simpa using c)]
  refine(Hs fun y hy e=>c ?_).symm;obtain⟨z,hz,rfl⟩:=bf.1 (h.perm.mem_iff.1 hy);exact l5.2 ⟨z,hz,e⟩
def lK{s:aD}{y:RF}:kn s y=true↔¬y.1=s:=by simp[kn]
def Ht{s:aD}{e:RF}:∀{L:List RF} {y:RF},y∈th s e L->y=e\/y∈L
 |[],y,h=>by simp[th]at h;exact .inl h
 |z :: r,y,h=>by
  unfold th at h;split at h
  ·rcases ag.1 h with h|h
   ·exact .inl h
   ·exact .inr (e8.1 h).1
  ·rcases ag.1 h with rfl|h
   ·exact .inr (by simp)
   ·rcases Ht h with h|h
    ·exact .inl h
    ·exact .inr (by simp[h])
def not_le{s a:aD}(h:¬(bu s a || s == a)=true):pG a s:=by
 simp at h;exact w6 (a:=a) (b:=s) (by unfold B5 pG;rw[h.1];simp) (fun e=>h.2 e.symm)
def zA{s:aD}{e:RF}(he:e.1=s):∀{L:List RF},tV L->tV (th s e L)
 |[],_=>by simp[th,tV]
 |z :: r,h=>by
  have h':=c8.1 h;unfold th;split
  ·rename_i c
   refine c8.2 ⟨fun y hy =>?_,h.filter _⟩;have hy':=e8.1 hy;have hn:=lK.1 hy'.2;have hz:B5 s z.1:=by
    simp at c;rcases c with c|rfl
    ·exact Ep c
    ·exact Hl _
   have hzy:B5 z.1 y.1:=by
    rcases ag.1 hy'.1 with e2|hy2
    ·rw[e2];exact Hl _
    ·exact Ep (h'.1 y hy2)
   rw[he];exact w6 (Pa hz hzy) (fun e2=>hn e2.symm)
  ·rename_i c
   have hlt:=not_le c;refine c8.2 ⟨fun y hy =>?_,zA he h'.2⟩;rcases Ht hy with rfl|hy
   ·rw[he];exact hlt
   ·exact h'.1 y hy
def filter_all{s:aD}:∀{L:List RF},(∀y∈L,¬y.1=s)->L.filter (kn s)=L:=fun h=>List.filter_eq_self.2 fun y hy=>lK.2 (h y hy)
def Eu{s:aD}{e:RF}:∀{L:List RF},tV L->(th s e L).Perm (e :: L.filter (kn s))
 |[],_ =>.refl _
 |z :: r,h=>by
  have h':=c8.1 h;unfold th;split
  ·exact .refl _
  ·rename_i c
   have hlt:=not_le c;have hz:kn s z=true:=lK.2 fun e=>by rw[e]at hlt;exact pn _ hlt
   rw[ck,if_pos hz];exact((Eu h'.2).cons z).trans (e9 e z _)
def xf{s:aD}{v:aD×Int×Unit}{c:Int}:∀{es:List FE},(es.map po).Nodup->((eU cI es s v c).map sH).Perm ((s,v.1,v.2.1,()) :: (es.map sH).filter (kn s))
 |[],_ =>.refl _
 |z :: r,hn=>by
  simp only[aj,ch]at hn;unfold eU;by_cases e:z.1=s
  ·rw[if_pos e]
   have h1:kn s (sH z)=false:=by
    cases h:kn s (sH z)with
    |false=>rfl
    |true=>exact absurd e (lK.1 h)
   rw[aj,aj,ck,if_neg (by rw[h1];simp),filter_all]
   ·exact .refl _
   ·intro y hy e2
    obtain⟨z2,hz2,rfl⟩:=bf.1 hy;exact hn.1 (by rw[show po z=po z2 from e.trans (show s=z2.1 from e2.symm)];exact bw hz2)
  ·rw[if_neg e]
   have h1:kn s (sH z)=true:=lK.2 e;rw[aj,aj,ck,if_pos h1];exact((xf hn.2).cons (sH z)).trans (e9 _ _ _)
def sJ{s:aD}{v:aD×Int×Unit}{c:Int}:∀{es:List FE},(eU cI es s v c).map ql=if cX cI es s=true then es.map ql else es.map ql++[c]
 |[]=>rfl
 |z :: r=>by
  unfold eU cX;by_cases e:z.1=s
  ·rw[if_pos e,if_pos e];rfl
  ·rw[if_neg e,if_neg e,aj,sJ]
   split <;> rfl
def Hu{s:aD}:∀{es:List FE},(es.map po).Nodup->(fU cI es s).map sH=(es.map sH).filter (kn s)
 |[],_=>rfl
 |z :: r,hn=>by
  simp only[aj,ch]at hn;unfold fU;by_cases e:z.1=s
  ·have h1:¬kn s (sH z)=true:=fun h=>lK.1 h e
   rw[if_pos e,aj,ck,if_neg h1,filter_all];intro y hy e2;obtain⟨z2,hz2,rfl⟩:=bf.1 hy;exact hn.1 (by rw[show po z=po z2 from e.trans (show s=z2.1 from e2.symm)];exact bw hz2)
  ·have h1:kn s (sH z)=true:=lK.2 e
   rw[if_neg e,aj,aj,ck,if_pos h1,Hu hn.2]
def pV{s:aD}:∀{es:List FE},(fU cI es s).Sublist es
 |[] =>.refl _
 |z :: r=>by
  unfold fU;split
  ·exact List.sublist_cons_self _ _
  ·exact pV.cons_cons _
def gu.has{x:cH}{r:RS}(h:gu x r)(s:aD):0<(re r.1 s).2.2↔cX cI x.2.1.1 s=false:=by
 rw[<-h.read s];cases c:cX cI x.2.1.1 s with
 |true=>rw[pq c];simp
 |false=>rw[lJ c];simp
def gu.write{x:cH}{r:RS}(h:gu x r)(s t:aD):gu (cL x s t).1 (tU r s t).1/\(cL x s t).2=(tU r s t).2:=by
 have hlen:r.1.length=x.2.1.1.length:=by rw[h.perm.length_eq,ec]
 have hc:((cX cI x.2.1.1 s=false/\x.2.1.1.length=6)\/x.1.1=1000000)↔((0<(re r.1 s).2.2/\r.1.length=6)\/r.2.1=1000000):=by rw[h.has,hlen,h.now]
 by_cases h1:aP s=0
 ·by_cases h2:1200<t.length
  ·rw[xb h1 h2]
   unfold tU;rw[if_neg (by simp[h1]),if_pos h2];exact⟨h,rfl⟩
  ·by_cases h3:(cX cI x.2.1.1 s=false/\x.2.1.1.length=6)\/x.1.1=1000000
   ·rw[xc h1 h2 h3]
    unfold tU;rw[if_neg (by simp[h1]),if_neg h2,if_pos (hc.1 h3)];exact⟨h,rfl⟩
   ·rw[B6 h1 h2 h3]
    unfold tU;rw[if_neg (by simp[h1]),if_neg h2,if_neg (fun h'=>h3 (hc.2 h'))];refine⟨⟨by rw[h.now],by have:=h.lo;simp only;omega,by have:=h.hi;simp only;omega,?_,?_,?_,zA (s:=s) (e:=(s,t,r.2.1+1,())) rfl h.Hr,?_⟩,rfl⟩
    ·have hp:=(xf (s:=s) (v:=(t,x.1.1+1,())) (c:=x.2.1.2.1) h.names).length_eq
     have hb:=congrArg bj (sJ (s:=s) (v:=(t,x.1.1+1,())) (c:=x.2.1.2.1) (es:=x.2.1.1));simp only[ec]at hb;show(eU cI x.2.1.1 s (t,x.1.1+1,()) x.2.1.2.1).length<=6;rw[hb];have:=h.len;cases c:cX cI x.2.1.1 s with
     |true=>simpa using this
     |false=>
      have:¬x.2.1.1.length=6:=fun e=>h3 (.inl ⟨c,e⟩)
      simp;omega
    ·show((eU cI x.2.1.1 s (t,x.1.1+1,()) x.2.1.2.1).map ql).Nodup
     rw[sJ];split
     ·exact h.born
     ·rw[fb]
      refine⟨h.born,by simp,fun a ha b hb e =>?_⟩;simp at hb;obtain⟨y,hy,rfl⟩:=bf.1 ha;have:=h.old y hy;omega
    ·intro y hy
     have hy':ql y∈(eU cI x.2.1.1 s (t,x.1.1+1,()) x.2.1.2.1).map ql:=bw hy;rw[sJ]at hy';show ql y<mT cI x.2.1.1 s x.2.1.2.1;unfold mT;split at hy'
     ·rename_i c
      rw[if_pos c];obtain⟨z,hz,e⟩:=bf.1 hy';rw[<-e];exact h.old z hz
     ·rename_i c
      rw[if_neg c];rcases au.1 hy' with hy'|hy'
      ·obtain⟨z,hz,e⟩:=bf.1 hy'
       have:=h.old z hz;omega
      ·simp at hy';omega
    ·refine(Eu h.Hr).trans ?_
     rw[h.now];exact((h.perm.filter _).cons _).trans (xf (v:=(t,x.1.1+1,())) (c:=x.2.1.2.1) h.names).symm
 ·rw[xa h1]
  unfold tU;rw[if_pos h1];exact⟨h,rfl⟩
def gu.remove{x:cH}{r:RS}(h:gu x r)(s:aD):gu (fE x s).1 (yt r s).1/\(fE x s).2=(yt r s).2:=by
 have hp:(r.1.filter (kn s)).Perm ((fU cI x.2.1.1 s).map sH):=by rw[Hu h.names];exact h.perm.filter _
 cases c:cX cI x.2.1.1 s with
 |false=>
  have hall:r.1.filter (kn s)=r.1:=filter_all fun y hy e=>by
   obtain⟨z,hz,rfl⟩:=bf.1 (h.perm.mem_iff.1 hy);have:=l5.2 ⟨z,hz,e⟩;rw[c]at this;cases this
  rw[mB c];unfold yt;rw[if_pos (by rw[hall])];exact⟨h,rfl⟩
 |true=>
  obtain⟨y,hy,e⟩:=l5.1 c;have hlt:(r.1.filter (kn s)).length<r.1.length:=List.length_filter_lt_length_iff_exists.2 ⟨sH y,h.perm.mem_iff.2 (bw hy),by rw[lK];exact fun h=>h e⟩;rw[lB c];unfold yt;rw[if_neg (by omega)];refine⟨⟨h.now,h.lo,h.hi,b5 pV.length_le h.len,(pV.map ql).nodup h.born,fun y hy=>h.old y (pV.subset hy),List.Pairwise.filter _ h.Hr,hp⟩,rfl⟩
def rX:aD:=[119,114,105,116,101]
def gu.pre{x:cH}{r:RS}(h:gu x r):x.2.1.1.length<=6/\0<=x.1.1/\x.1.1<=1000000:=⟨h.len,h.lo,h.hi⟩
def tW:aD:=[114,101,109,111,118,101]
def mL(x:cH)(a:D cQ):cH:=if a.1=rX then(cL x a.2.1 a.2.2.1).1 else if a.1=tW then(fE x a.2.1).1 else x
def fY(x:cH)(l:List (D cQ)):cH:=l.foldl mL x
def uZ{x:cH}{l:List (D cQ)}{i:Nat}(h:i<l.length):fY x (l.take (i+1))=mL (fY x (l.take i)) (nth cQ l i):=by rw[lI (t:=cQ) h];simp[fY]
def JV{x:cH}{a:D cQ}(h:a.1=rX):mL x a=(cL x a.2.1 a.2.2.1).1:=if_pos h
def Hv{x:cH}{a:D cQ}(h:¬a.1=rX)(h2:a.1=tW):mL x a=(fE x a.2.1).1:=by unfold mL;rw[if_neg h,if_pos h2]
def MC{x:cH}{a:D cQ}(h:¬a.1=rX)(h2:¬a.1=tW):mL x a=x:=by unfold mL;rw[if_neg h,if_neg h2]
structure dA (x:cH):Prop where
 fP:∃r,gu x r
 MD:∀y∈x.2.1.1,y.2.1.2.1<=x.1.1
def dA.new:dA qm:=⟨⟨_,gu.new⟩,fun y hy=>by simp[qm]at hy⟩
def Hw{s:aD}{v:aD×Int×Unit}{c:Int}:∀{es:List FE} {y:FE},y∈eU cI es s v c->y.2.1=v\/y∈es
 |[],y,h=>by simp[eU]at h;subst h;exact .inl rfl
 |z :: r,y,h=>by
  unfold eU at h;split at h
  ·rcases ag.1 h with rfl|h
   ·exact .inl rfl
   ·exact .inr (by simp[h])
  ·rcases ag.1 h with rfl|h
   ·exact .inr (by simp)
   ·rcases Hw h with h|h
    ·exact .inl h
    ·exact .inr (by simp[h])
def mm(x:cH)(s t:aD):((cL x s t).1=x/\¬(cL x s t).2=0)\/
  ((cL x s t).1=((x.1.1+1,()),(eU cI x.2.1.1 s (t,x.1.1+1,()) x.2.1.2.1,mT cI x.2.1.1 s x.2.1.2.1,()),())/\(cL x s t).2=0):=by
 unfold cL;split
 ·rename_i h;exact .inl ⟨rfl,h⟩
 ·split
  ·exact .inl ⟨rfl,by simp⟩
  ·split
   ·exact .inl ⟨rfl,by simp⟩
   ·exact .inr ⟨rfl,rfl⟩
def dA.write{x:cH}(h:dA x)(s t:aD):dA (cL x s t).1/\x.1.1<=(cL x s t).1.1.1:=by
 obtain⟨r,hr⟩:=h.fP;have hg:=(hr.write s t).1;rcases mm x s t with⟨e,_⟩|⟨e,_⟩
 ·rw[e];exact⟨h,az _⟩
 ·rw[e]at hg ⊢
  refine⟨⟨⟨_,hg⟩,fun y hy =>?_⟩,by simp only;omega⟩;rcases Hw hy with hy|hy
  ·rw[hy];exact az _
  ·have:=h.MD y hy;simp only;omega
def dA.remove{x:cH}(h:dA x)(s:aD):dA (fE x s).1/\x.1.1<=(fE x s).1.1.1:=by
 obtain⟨r,hr⟩:=h.fP;have hg:=(hr.remove s).1;cases c:cX cI x.2.1.1 s with
 |false=>rw[mB c];exact⟨h,az _⟩
 |true=>
  rw[lB c]at hg ⊢;exact⟨⟨⟨_,hg⟩,fun y hy=>h.MD y (pV.subset hy)⟩,az _⟩
def dA.mL{x:cH}(h:dA x)(a:D cQ):dA (mL x a)/\x.1.1<=(Mrl.mL x a).1.1:=by
 unfold Mrl.mL;split
 ·exact h.write _ _
 ·split
  ·exact h.remove _
  ·exact⟨h,az _⟩
def dA.done:∀(l:List (D cQ)) {x:cH},dA x->dA (fY x l)
 |[],_,h=>h
 |a :: l,_,h=>dA.done l (h.mL a).1
def ME{x:cH}(h:dA x){s:aD}(hn:(aJ (aG x s).2.2).isNil=true):(aG x s).2.1<=x.1.1:=by
 have hc:=aK.1 hn;cases c:cX cI x.2.1.1 s with
 |false=>rw[lJ c]at hc;simp at hc
 |true=>
  obtain⟨r,hr⟩:=h.fP;obtain⟨y,hy,e⟩:=l5.1 c;rw[pq c,uY hr.names y hy e];exact h.MD y hy
def rY{s k:aD}{v:aD×Int×Unit}{c:Int}:∀{es:List FE},cX cI (eU cI es s v c) k=(decide (k=s) || cX cI es k)/\iW cI (eU cI es s v c) k=if k=s then v else iW cI es k
 |[]=>by
  by_cases h:s=k
  ·subst h;simp[eU,cX,iW]
  ·have h':¬k=s:=fun e=>h e.symm
   simp[eU,cX,iW,h,h']
 |z :: r=>by
  obtain⟨i1,i2⟩:=rY (s:=s) (k:=k) (v:=v) (c:=c) (es:=r);unfold eU;by_cases e:z.1=s
  ·rw[if_pos e]
   by_cases h:s=k
   ·subst h;simp[cX,iW]
   ·have h':¬k=s:=fun e=>h e.symm
    have h2:¬z.1=k:=fun e2=>h (e.symm.trans e2)
    simp[cX,iW,h,h',h2]
  ·rw[if_neg e]
   by_cases h:z.1=k
   ·have h':¬k=s:=fun e2=>e (h.trans e2)
    simp[cX,iW,h,h']
   ·simp only[cX,iW,if_neg h];exact⟨i1,i2⟩
def MF{x:cH}{s k t:aD}(h:¬k=s):aG (cL x s t).1 k=aG x k:=by
 rcases mm x s t with⟨e,_⟩|⟨e,_⟩
 ·rw[e]
 ·rw[e]
  unfold aG;simp only[(rY (s:=s) (k:=k) (v:=(t,x.1.1+1,())) (c:=x.2.1.2.1) (es:=x.2.1.1)).1,(rY (s:=s) (k:=k) (v:=(t,x.1.1+1,())) (c:=x.2.1.2.1) (es:=x.2.1.1)).2,h,decide_false,Bool.false_or,if_false]
def Ph{x:cH}{s t:aD}(h:(aJ (cL x s t).2).isNil=true):aG (cL x s t).1 s=(t,x.1.1+1,0):=by
 rcases mm x s t with⟨_,e⟩|⟨e,_⟩
 ·exact absurd (aK.1 h) e
 ·rw[e]
  unfold aG;simp only[(rY (s:=s) (k:=s) (v:=(t,x.1.1+1,())) (c:=x.2.1.2.1) (es:=x.2.1.1)).1,(rY (s:=s) (k:=s) (v:=(t,x.1.1+1,())) (c:=x.2.1.2.1) (es:=x.2.1.1)).2];simp
def Pj{x:cH}{s t:aD}(h:(aJ (cL x s t).2).isNil=false):(cL x s t).1=x:=by
 rcases mm x s t with⟨e,_⟩|⟨_,e⟩
 ·exact e
 ·rw[e]at h;cases h
def dA.pre{x:cH}(h:dA x):x.2.1.1.length<=6/\0<=x.1.1/\x.1.1<=1000000:=let⟨_,hr⟩:=h.fP;hr.pre
def _root_.Go.Vg.Hx:List UInt8->UInt8
 |c :: _=>c
 |[]=>0
def nH(c:UInt8):List aD->aD
 |[]=>[]
 |[x]=>x
 |x :: y :: r=>x++c :: nH c (y :: r)
def parts(c:UInt8):aD->List aD
 |[]=>[[]]
 |b :: r=>if b=c then[] :: parts c r else match parts c r with
  |h :: t=>(b :: h) :: t
  |[]=>[[b]]
def AJ(c:UInt8):∀s:aD,parts c s≠[]
 |[]=>by simp[parts]
 |b :: r=>by
  unfold parts;split
  ·simp
  ·split <;> simp
def mn{c b:UInt8}{r:aD}(h:b≠c):∃x t,parts c r=x :: t/\parts c (b :: r)=(b :: x) :: t:=by
 cases hp:parts c r with
 |nil=>exact absurd hp (AJ c r)
 |cons x t=>
  refine⟨x,t,rfl,?_⟩
  conv=>lhs;unfold parts
  rw[if_neg h,hp]
def oA{c:UInt8}{r:aD}:parts c (c :: r)=[] :: parts c r:=by
 conv=>lhs;unfold parts
 rw[if_pos rfl]
def lL{c:UInt8}:∀{x:aD},c∉x->parts c x=[x]
 |[],_=>rfl
 |b :: r,h=>by
  obtain⟨x,t,h1,h2⟩:=mn (c:=c) (b:=b) (r:=r) (fun e=>h (by simp[e]));rw[lL (x:=r) (fun e=>h (by simp[e]))]at h1;cases h1;exact h2
def hZ{c:UInt8}:∀{x:aD} {s:aD},c∉x->parts c (x++c :: s)=x :: parts c s
 |[],s,_=>oA
 |b :: r,s,h=>by
  obtain⟨x,t,h1,h2⟩:=mn (c:=c) (b:=b) (r:=r++c :: s) (fun e=>h (by simp[e]));rw[hZ (x:=r) (fun e=>h (by simp[e]))]at h1;cases h1;exact h2
def tj{c:UInt8}:∀{L:List aD},L≠[]->(∀y∈L,c∉y)->parts c (nH c L)=L
 |[],h,_=>absurd rfl h
 |[x],_,h=>lL (h x (by simp))
 |x :: y :: r,_,h=>by
  show parts c (x++c :: nH c (y :: r))=_;rw[hZ (h x (by simp)),tj (by simp) fun z hz=>h z (cd _ hz)]
def sK(c:UInt8):∀(s:aD),(parts c s).length<=s.length+1
 |[]=>by simp[parts]
 |b :: r=>by
  by_cases h:b=c
  ·subst h;rw[oA];have:=sK b r;simp;omega
  ·obtain⟨x,t,h1,h2⟩:=mn (c:=c) (b:=b) (r:=r) h
   have:=sK c r;rw[h1]at this;rw[h2];simp at this ⊢;omega
def oJ(c:UInt8):∀(s:aD),∀y∈parts c s,y.length<=s.length
 |[],y,h=>by simp[parts]at h;simp[h]
 |b :: r,y,h=>by
  by_cases hb:b=c
  ·subst hb;rw[oA]at h
   rcases ag.1 h with rfl|h
   ·simp
   ·have:=oJ b r y h;simp;omega
  ·obtain⟨x,t,h1,h2⟩:=mn (c:=c) (b:=b) (r:=r) hb
   rw[h2]at h;rcases ag.1 h with rfl|h
   ·have:=oJ c r x (by rw[h1];simp);simp;omega
   ·have:=oJ c r y (by rw[h1];simp[h]);simp;omega
def xg{b c:UInt8}{l:aD}(h:b≠c):bm (b :: l) [c]=if bm l [c] == -1 then -1 else bm l [c]+1:=by
 rw[bm];simp[cm,Ne.symm h]
def xh{c:UInt8}{l:aD}:bm (c :: l) [c]=0:=by
 rw[bm];simp[cm]
def rZ(c:UInt8):∀s:aD,cn [c] 0 (s.count c) s=parts c s
 |[]=>rfl
 |b :: l=>by
  by_cases h:b=c
  ·subst h
   rw[oA,List.count_cons_self,cn,xh,if_neg (by decide),<-rZ b l];simp
  ·obtain⟨x,t,h1,h2⟩:=mn (c:=c) (b:=b) (r:=l) h
   rw[h2,List.count_cons_of_ne h];rw[<-rZ c l]at h1;cases hk:l.count c with
   |zero=>
    rw[hk]at h1;simp only[cn]at h1 ⊢;cases h1;rfl
   |succ k=>
    rw[hk]at h1;have hi:bm l [c]≠-1:=by
     intro e;have:=Lib.count_miss (s:=l) (sub:=[c]) e;rw[Lib.count_one]at this;omega
    have hge:=Lib.index_ge l [c];rw[cn,if_neg (by simpa using hi)]at h1;obtain⟨i,e⟩:∃i:Nat,bm l [c]=i:=⟨(bm l [c]).toNat,by omega⟩
    have e2:bm (b :: l) [c]=((i+1:Nat):Int):=by rw[xg h,if_neg (by simpa using hi),e];rfl
    rw[cn,e2,if_neg (by simp;omega)];rw[e]at h1;simp only[dv,Nat.add_zero,da,fc,List.drop_succ_cons,List.cons.injEq]at h1 ⊢;exact⟨⟨aa,h1.1⟩,h1.2⟩
def qU(c:UInt8)(L:List aD):aD:=L.flatMap (· ++ [c])
def Ev(c:UInt8)(x:aD)(L:List aD):qU c (x :: L)=x++c :: qU c L:=by simp[qU]
def Ew{c:UInt8}:∀{L:List aD},L≠[]->qU c L=nH c L++[c]
 |[],h=>absurd rfl h
 |[x],_=>by simp[qU,nH]
 |x :: y :: r,_=>by
  rw[Ev,Ew (L:=y :: r) (by simp)];simp[nH]
def tX(x:aD)(c:UInt8):ae (x++[c]) [c]=x:=by
 have h:Lib.hasSuffix (x++[c]) [c]=true:=by unfold Lib.hasSuffix;simp[List.isSuffixOf_iff_suffix]
 unfold ae;rw[if_pos h];simp
def MG{c:UInt8}{L:List aD}(h:L≠[])(hf:∀y∈L,c∉y):parts c (ae (qU c L) [c])=L:=by
 rw[Ew h,tX,tj h hf]
def xi{k:Nat}(h:k<10):(ed (48+k)).toNat=48+k:=by
 rw[er];omega
def pr:∀(u:Nat),∀c∈ay u,48<=c.toNat/\c.toNat<=57:=by
 intro u;induction u using fe with
 |_ u ih=>
  intro c hc;by_cases h:u<10
  ·rw[ay,dif_pos h]at hc
   simp only[db]at hc;rw[hc,xi h];omega
  ·rw[ay,dif_neg h]at hc
   rcases au.1 hc with hc|hc
   ·exact ih _ (by omega) c hc
   ·simp only[db]at hc
    rw[hc,xi (Nat.mod_lt _ (by decide))];omega
def xj(u:Nat):ay u≠[]:=by
 rw[ay];split <;> simp
def oB:∀(k u:Nat),u<10^(k+1)->(ay u).length<=k+1
 |0,u,h=>by rw[ay,dif_pos (by simpa using h)];simp
 |k+1,u,h=>by
  rw[ay];split
  ·simp
  ·have:=oB k (u / 10) (by rw[Nat.pow_succ]at h;omega)
   simp;exact this
def Ey:∀(l:aD) (c:UInt8) (a v:Nat),bo a l=.ok v->bo a (l++[c])=bo v [c]
 |[],c,a,v,h=>by simp[bo]at h;rw[h];rfl
 |b :: l,c,a,v,h=>by
  rw[ee,bo];rw[bo]at h;split at h
  ·rename_i hb
   rw[if_pos hb];split at h
   ·cases h
   ·rename_i h1
    rw[if_neg h1];split at h
    ·cases h
    ·rename_i h2
     rw[if_neg h2];exact Ey l c _ v h
  ·cases h
def Hy{v d:Nat}(hd:d<10)(h:10*v+d<18446744073709551616):bo v [ed (48+d)]=.ok (10*v+d):=by
 unfold bo;rw[xi hd,if_pos (by omega),if_neg (by omega),if_neg (by omega)];unfold bo;congr 1;omega
def Sv:∀u:Nat,u<18446744073709551616->bo 0 (ay u)=.ok u:=by
 intro u;induction u using fe with
 |_ u ih=>
  intro hu;by_cases h:u<10
  ·rw[ay,dif_pos h]
   have:=Hy (v:=0) (d:=u) h (by omega);simpa using this
  ·rw[ay,dif_neg h,Ey _ _ _ _ (ih _ (by omega) (by omega)),Hy (Nat.mod_lt _ (by decide)) (by omega)]
   congr 1;omega
def K7{u:Nat}(hu:u<18446744073709551616):Lib.parseMag (ay u)=.ok u:=by
 unfold Lib.parseMag;rw[if_neg (xj u),Sv u hu]
def Pk{n:Int}(h0 : -9223372036854775808<=n)(h1:n<=9223372036854775807):b6 (ab n)=.ok n:=by
 by_cases hn:n<0
 ·have hm:=K7 (u:=n.natAbs) (by omega)
  simp only[ab,if_pos hn,b6];rw[if_pos (Or.inr (by decide)),hm];simp only;rw[if_neg (by simp),if_neg (by simp;omega)];simp;omega
 ·have hm:=K7 (u:=n.toNat) (by omega)
  simp only[ab,if_neg hn,b6];cases hd:ay n.toNat with
  |nil=>exact absurd hd (xj _)
  |cons c r=>
   have hc:=pr n.toNat c (by rw[hd];simp);rw[hd]at hm;simp only;rw[if_neg (by omega),hm];simp only;rw[if_neg (by omega),if_neg (by omega),if_neg (by omega)];congr 1;omega
def dZ(s:List UInt8):Int×aL:=match b6 s with
 |.ok n=>(n,.nil)
 |Lib.NumEnd.syntax=>(0,.other)
 |.range=>(Lib.atoiSat s,.other)
def cT(s:aD):Option Int:=match b6 s with
 |.ok n=>if ab n=s then some n else none
 |_=>none
def Pl{n:Int}(h0 : -9223372036854775808<=n)(h1:n<=9223372036854775807):cT (ab n)=some n:=by
 unfold cT;rw[Pk h0 h1];simp
def qE{s:aD}:(cT s).isNone=(!(dZ s).2.isNil || !decide (ab (dZ s).1=s)):=by
 unfold cT dZ;cases b6 s with
 |ok v=>simp only[aL.isNil];by_cases h:ab v=s <;> simp[h]
 |range=>rfl
 |_=>rfl
def Ez{n:Int}{c:UInt8}(h:c.toNat<=44):c∉ab n:=by
 intro hc;have h45:(45:UInt8).toNat=45:=rfl;unfold ab at hc;split at hc
 ·rcases ag.1 hc with rfl|hc
  ·omega
  ·have:=pr _ c hc;omega
 ·have:=pr _ c hc;omega
def mD(n:Int):Nat:=2*n.natAbs+(if n<0 then 1 else 0)
def Xg{n:Int}(h:n<0):mD (-n)<mD n:=by unfold mD;rw[if_neg (by omega),if_pos h];omega
def Pm{n:Int}(h:n<0):ab n=[45]++ab (-n):=by
 unfold ab;rw[if_pos h,if_neg (by omega)];congr 2;omega
def AK{n:Int}(h:0<=n)(h':n<10):ab n=[ed (48+n).toNat]:=by
 unfold ab;rw[if_neg (by omega),ay,dif_pos (by omega)];congr 2;omega
def nf{f:Int}(h0:0<=f)(h:(aJ f).isNil=false):f > 0:=by
 have:¬f=0:=fun e=>by rw[aK.2 e]at h;cases h
 omega
def dE{f:Int}(h:(aJ f).isNil=true):f<=0:=by
 have:=aK.1 h;omega
def EA{t:Ty}{l:List (D t)}{i j:Nat}(h:j<i):nth t (ai 0 (ah i l)) j=nth t l j:=by
 rw[ef,AH h]
def EB{α:Type}{l:List α}{i:Nat}(h:i<=l.length):(ai 0 (ah i l)).length=i:=by
 rw[ef,bh];omega
def iK(b:Bool):List UInt8:=if b=true then[119,101,97,107,32]else[]
def yu(s:aD):aD:=[110,101,101,100,32]++s++[10]
def u5(n:Int):aD:=[119,111,114,100,32]++ab n++[10]
def Dm(y:D aS):aD:=iK y.2.2.1++[115,121,109,98,111,108,32]++y.1++[32]++ab y.2.1++[10]
def tl(t:D bD):aD:=
 if t.2.1=1 then[98,97,115,101,32]++ab t.1++[32]++ab t.2.2.1++[10]
 else if t.2.1=2 then iK t.2.2.2.2.1++[119,104,111,108,101,32]++ab t.1++[32]++ab t.2.2.1++[32]++t.2.2.2.1++[10]
 else iK t.2.2.2.2.1++[110,101,97,114,32]++ab t.1++[32]++ab t.2.2.1++[32]++t.2.2.2.1++[10]
def pw(o:D aB)(i:Nat):aD:=(o.1.take i).flatMap yu
def nR(o:D aB)(i:Nat):aD:=pw o o.1.length++(o.2.1.take i).flatMap u5
def nS(o:D aB)(i:Nat):aD:=nR o o.2.1.length++(o.2.2.1.take i).flatMap Dm
def jz(o:D aB)(i:Nat):aD:=nS o o.2.2.1.length++(o.2.2.2.1.take i).flatMap tl
def iM(o:D aB):aD:=jz o o.2.2.2.1.length
def ko(o:D aB):aD×aL:=if cZ o≠0 then([],aJ (cZ o))else if(iM o).length > 1200 then([],.no 2)else(iM o,.nil)
def Pn{o:D aB}{i:Nat}(h:i<o.1.length):pw o (i+1)=pw o i++yu (nth .str o.1 i):=by
 unfold pw;rw[gY (t:=.str) h];simp
def Po{o:D aB}{i:Nat}(h:i<o.2.1.length):nR o (i+1)=nR o i++u5 (nth (.int .i64) o.2.1 i):=by
 unfold nR;rw[gY (t:=.int .i64) h];simp
def Pp{o:D aB}{i:Nat}(h:i<o.2.2.1.length):nS o (i+1)=nS o i++Dm (nth aS o.2.2.1 i):=by
 unfold nS;rw[gY (t:=aS) h];simp
def xk{o:D aB}{i:Nat}(h:i<o.2.2.2.1.length):jz o (i+1)=jz o i++tl (nth bD o.2.2.2.1 i):=by
 unfold jz;rw[gY (t:=bD) h];simp
def Pq(o:D aB):nR o 0=pw o o.1.length:=by unfold nR;simp
def Pr(o:D aB):nS o 0=nR o o.2.1.length:=by unfold nS;simp
def Ps(o:D aB):jz o 0=nS o o.2.2.1.length:=by unfold jz;simp
def Nm(s:aD):Prop:=s≠[]/\s.length<=8/\∀c∈s,c≠10/\c≠32
def il(a b x:Int):Prop:=a<=x/\x<=b
structure B7 (t:D bD):Prop where
 a:il 0 39 t.1
 w:il (-2147483648) 2147483647 t.2.2.1
 k:t.2.1=1\/t.2.1=2\/t.2.1=3
 base:t.2.1=1->t.2.2.2.1=[]/\t.2.2.2.2.1=false
 nm:t.2.1≠1->Nm t.2.2.2.1
structure kX (o:D aB):Prop where
 n4:o.1.length<=4
 w1:1<=o.2.1.length
 Ug:o.2.1.length<=40
 s8:o.2.2.1.length<=8
 t6:o.2.2.2.1.length<=6
 Gg:∀s∈o.1,Nm s
 words:∀n∈o.2.1,il (-2147483648) 2147483647 n
 syms:∀y∈o.2.2.1,Nm y.1/\il 0 39 y.2.1
 MH:∀t∈o.2.2.2.1,B7 t
def zB:∀(l p:List aD),jy p l=0->∀s∈l,aP s=0
 |[],_,_,s,h=>absurd h (by simp)
 |x :: r,p,h,s,hs=>by
  have hx:=eV x;unfold jy at h;split at h
  ·omega
  ·split at h
   ·cases h
   ·rcases ag.1 hs with rfl|hs
    ·omega
    ·exact zB r _ h s hs
def zC:∀(l:List Int),kL l=0->∀n∈l,ie n=true
 |[],_,s,h=>absurd h (by simp)
 |x :: r,h,s,hs=>by
  unfold kL at h;split at h
  ·rename_i hx
   rcases ag.1 hs with rfl|hs
   ·exact hx
   ·exact zC r h s hs
  ·cases h
def B8(n:Nat):∀(l p:List (D aS)),ig n p l=0->∀y∈l,aP y.1=0/\il 0 (n-1) y.2.1
 |[],_,_,s,h=>absurd h (by simp)
 |x :: r,p,h,s,hs=>by
  have hx:=eV x.1;unfold ig at h;split at h
  ·omega
  ·split at h
   ·cases h
   ·rename_i h2
    split at h
    ·cases h
    ·rcases ag.1 hs with rfl|hs
     ·exact⟨by omega,ao.1 fun e=>h2 (.inl e),fg (cp.1 fun e=>h2 (.inr e))⟩
     ·exact B8 n r _ h s hs
def EC{n:Nat}{p:Option Int}{t:D bD}(h:nc n p t=0) :
  il 0 (n-1) t.1/\ie t.2.2.1=true/\il 1 3 t.2.1/\(t.2.1=1->t.2.2.2.1=[]/\t.2.2.2.2.1=false)/\(t.2.1≠1->aP t.2.2.2.1=0):=by
 unfold nc at h;split at h
 ·cases h
 ·rename_i h1
  split at h
  ·cases h
  ·rename_i h2
   refine⟨⟨ao.1 fun e=>h1 (.inl e),fg (cp.1 fun e=>h1 (.inr (.inl e)))⟩,?_,⟨ao.1 fun e=>h2 (.inl e),ao.1 fun e=>h2 (.inr (.inl e))⟩,?_,?_⟩
   ·cases hw:ie t.2.2.1 with
    |true=>rfl
    |false=>exact absurd (.inr (.inr hw)) h1
   ·intro e
    rw[if_pos e]at h;split at h
    ·cases h
    ·rename_i h3
     refine⟨aq fun e=>h3 (.inl e),?_⟩;cases hb:t.2.2.2.2.1 with
     |false=>rfl
     |true=>exact absurd (.inr hb) h3
   ·intro e
    rw[if_neg e]at h;exact h
def u6(n:Nat):∀(l:List (D bD)) (p:Option Int),kM n p l=0->∀t∈l,∃p,nc n p t=0
 |[],_,_,s,h=>absurd h (by simp)
 |x :: r,p,h,s,hs=>by
  unfold kM at h;split at h
  ·rename_i h0;exact absurd h h0
  ·rename_i h0
   rcases ag.1 hs with rfl|hs
   ·exact⟨p,aq h0⟩
   ·exact u6 n r _ h s hs
def B9{s:aD}(h:aP s=0):Nm s:=by
 unfold aP at h;split at h
 ·cases h
 ·rename_i hl
  split at h
  ·cases h
  ·rename_i hb
   refine⟨by rintro rfl;simp at hl,by omega,fun c hc =>?_⟩;obtain⟨i,hi,rfl⟩:=dw hc;have hn:kj i (dQ s i)=false:=by
    unfold tS at hb;rw[fh,cy]at hb;have:=hb i (by simpa using hi);simpa using this
   have he:dQ s i=s[i]:=by unfold dQ;simp[hi]
   rw[he]at hn;constructor
   ·intro e;rw[e]at hn;unfold kj small other at hn;simp at hn
   ·intro e;rw[e]at hn;unfold kj small other at hn;simp at hn
def three{x:Int}(h:1<=x)(h':x<=3):x=1\/x=2\/x=3:=by omega
def ng{o:D aB}(h:cZ o=0):kX o:=by
 unfold cZ at h;split at h
 ·cases h
 ·rename_i hm
  split at h
  ·rename_i h1;exact absurd h h1
  ·rename_i h1
   split at h
   ·rename_i h2;exact absurd h h2
   ·rename_i h2
    split at h
    ·rename_i h3;exact absurd h h3
    ·rename_i h3
     have h1:=aq h1;have h2:=aq h2;have h3:=aq h3;unfold lY at hm;have hw:o.2.1.length<=40:=bc.1 fun e=>hm (.inr (.inr (.inl e)))
     refine⟨bc.1 fun e=>hm (.inl e),bc.1 fun e=>hm (.inr (.inl e)),hw,bc.1 fun e=>hm (.inr (.inr (.inr (.inl e)))),bc.1 fun e=>hm (.inr (.inr (.inr (.inr e)))),
      fun s hs=>B9 (zB _ _ h1 s hs),fun n hn =>?_,fun y hy =>?_,fun t ht =>?_⟩
     ·have:=zC _ h2 n hn
      unfold ie at this;simp only[af,decide_eq_true_eq]at this;exact this
     ·obtain⟨a,b,c⟩:=B8 _ _ _ h3 y hy
      exact⟨B9 a,b,b7 c (by omega)⟩
     ·obtain⟨p,hp⟩:=u6 _ _ _ h t ht
      obtain⟨⟨a,b⟩,c,⟨d,e⟩,f,g⟩:=EC hp;unfold ie at c;simp only[af,decide_eq_true_eq]at c;exact⟨⟨a,b7 b (by omega)⟩,c,three d e,f,fun e=>B9 (g e)⟩
def dF{a b n:Int}(h:il a b n)(ha : -999999999999999999<=a)(hb:b<=999999999999999999):(ab n).length<=19:=by
 obtain⟨h0,h1⟩:=h;unfold ab;split
 ·rw[cj]
  have:=oB 17 n.natAbs (by omega);omega
 ·have:=oB 17 n.toNat (by omega)
  omega
def sL(b:Bool):(iK b).length<=5:=by cases b <;> decide
def Pu{s:aD}(h:Nm s):(yu s).length<=64:=by have:=h.2.1;simp[yu];omega
def Pv{n:Int}(h:il (-2147483648) 2147483647 n):(u5 n).length<=64:=by have:=dF h (by decide) (by decide);simp[u5];omega
def Sw{y:D aS}(h:Nm y.1/\il 0 39 y.2.1):(Dm y).length<=64:=by
 have h1:=dF h.2 (by decide) (by decide);have h2:=sL y.2.2.1;have h3:=h.1.2.1;simp[Dm];omega
def Sx{t:D bD}(h:B7 t):(tl t).length<=64:=by
 have h1:=dF h.a (by decide) (by decide);have h4:=dF h.w (by decide) (by decide);have h2:=sL t.2.2.2.2.1;unfold tl;split
 ·simp;omega
 ·rename_i hk
  have h3:=(h.nm hk).2.1;split
  ·simp;omega
  ·simp;omega
def oK{α:Type}{f:α->aD}:∀{l:List α},(∀x∈l,(f x).length<=64)->(l.flatMap f).length<=64*l.length
 |[],_=>by simp
 |x :: r,h=>by
  have h1:=h x (by simp);have h2:=oK (f:=f) (l:=r) fun y hy=>h y (cd _ hy)
  rw[bx,aw,cj];omega
def kX.Hz{o:D aB}(h:kX o)(i:Nat):(pw o i).length<=1000:=by
 have:=oK (f:=yu) (l:=o.1.take i) fun s hs=>Pu (h.Gg s (b8 hs))
 have h2:=h.n4;unfold pw;simp only[bh]at this;omega
def kX.AL{o:D aB}(h:kX o)(i:Nat):(nR o i).length<=4000:=by
 have h0:=h.Hz o.1.length;have:=oK (f:=u5) (l:=o.2.1.take i) fun s hs=>Pv (h.words s (b8 hs))
 have h2:=h.Ug;unfold nR;rw[aw];simp only[bh]at this;omega
def kX.Wi{o:D aB}(h:kX o)(i:Nat):(nS o i).length<=5000:=by
 have h0:=h.AL o.2.1.length;have:=oK (f:=Dm) (l:=o.2.2.1.take i) fun s hs=>Sw (h.syms s (b8 hs))
 have h2:=h.s8;unfold nS;rw[aw];simp only[bh]at this;omega
def kX.Xa{o:D aB}(h:kX o)(i:Nat):(jz o i).length<=6000:=by
 have h0:=h.Wi o.2.2.1.length;have:=oK (f:=tl) (l:=o.2.2.2.1.take i) fun s hs=>Sx (h.MH s (b8 hs))
 have h2:=h.t6;unfold jz;rw[aw];simp only[bh]at this;omega
def kX.xl{o:D aB}(h:kX o){i:Nat}(hi:i<o.1.length):Nm (nth .str o.1 i):=h.Gg _ (dJ (t:=.str) hi)
def kX.word{o:D aB}(h:kX o){i:Nat}(hi:i<o.2.1.length):il (-2147483648) 2147483647 (nth (.int .i64) o.2.1 i):=h.words _ (dJ (t:=.int .i64) hi)
def kX.sym{o:D aB}(h:kX o){i:Nat}(hi:i<o.2.2.1.length):Nm (nth aS o.2.2.1 i).1/\il 0 39 (nth aS o.2.2.1 i).2.1:=h.syms _ (dJ (t:=aS) hi)
def kX.tie{o:D aB}(h:kX o){i:Nat}(hi:i<o.2.2.2.1.length):B7 (nth bD o.2.2.2.1 i):=h.MH _ (dJ (t:=bD) hi)
def JW(a b:aD):bJ a++bJ b=bJ (a++b):=by simp[bJ]
def zD(a:aD):(bJ a).length=a.length:=by simp[bJ]
def ED{o:D aB}(h:kX o){i:Nat}(hi:i<o.1.length):(nth .str o.1 i).length<=8/\(pw o i).length<=1000:=⟨(h.xl hi).2.1,h.Hz i⟩
def EE{o:D aB}(h:kX o){i:Nat}(hi:i<o.2.1.length):(ab (nth (.int .i64) o.2.1 i)).length<=19/\(nR o i).length<=4000:=
 ⟨dF (h.word hi) (by decide) (by decide),h.AL i⟩
def HA{o:D aB}(h:kX o){i:Nat}(hi:i<o.2.2.1.length) :
  (nth aS o.2.2.1 i).1.length<=8/\(ab (nth aS o.2.2.1 i).2.1).length<=19/\(iK (nth aS o.2.2.1 i).2.2.1).length<=5/\(nS o i).length<=5000:=
 ⟨(h.sym hi).1.2.1,dF (h.sym hi).2 (by decide) (by decide),sL _,h.Wi i⟩
def HB{o:D aB}(h:kX o){i:Nat}(hi:i<o.2.2.2.1.length) :
  (nth bD o.2.2.2.1 i).2.2.2.1.length<=8/\(ab (nth bD o.2.2.2.1 i).1).length<=19/\(ab (nth bD o.2.2.2.1 i).2.2.1).length<=19/\(iK (nth bD o.2.2.2.1 i).2.2.2.2.1).length<=5/\(jz o i).length<=6000:=by
 have ht:=h.tie hi;refine⟨?_,dF ht.a (by decide) (by decide),dF ht.w (by decide) (by decide),sL _,h.Xa i⟩;by_cases hk:(nth bD o.2.2.2.1 i).2.1=1
 ·rw[(ht.base hk).1];decide
 ·exact(ht.nm hk).2.1
def oL{p p' q:aD}{a b:Int}(h:p'=p++q):(((bJ p++bJ q,a,b,()):D kv))=((bJ p',a,b,()):D kv):=by rw[h,JW]
def AM{p p':aD}{a b:Int}(h:p=p'):((bJ p,a,b,()):D kv)=((bJ p',a,b,()):D kv):=by rw[h]
def MI{o:D aB}{i:Nat}(h:i<o.2.2.2.1.length)(hk:(nth bD o.2.2.2.1 i).2.1=1) :
  jz o (i+1)=jz o i++([98,97,115,101,32]++ab (nth bD o.2.2.2.1 i).1++[32]++ab (nth bD o.2.2.2.1 i).2.2.1++[10]):=by
 rw[xk h];unfold tl;rw[if_pos hk]
def MJ{o:D aB}{i:Nat}(h:i<o.2.2.2.1.length)(hk:¬(nth bD o.2.2.2.1 i).2.1=1)(hk2:(nth bD o.2.2.2.1 i).2.1=2) :
  jz o (i+1)=jz o i++(iK (nth bD o.2.2.2.1 i).2.2.2.2.1++[119,104,111,108,101,32]++ab (nth bD o.2.2.2.1 i).1++[32]++ab (nth bD o.2.2.2.1 i).2.2.1++[32]++(nth bD o.2.2.2.1 i).2.2.2.1++[10]):=by
 rw[xk h];unfold tl;rw[if_neg hk,if_pos hk2]
def MK{o:D aB}{i:Nat}(h:i<o.2.2.2.1.length)(hk:¬(nth bD o.2.2.2.1 i).2.1=1)(hk2:¬(nth bD o.2.2.2.1 i).2.1=2) :
  jz o (i+1)=jz o i++(iK (nth bD o.2.2.2.1 i).2.2.2.2.1++[110,101,97,114,32]++ab (nth bD o.2.2.2.1 i).1++[32]++ab (nth bD o.2.2.2.1 i).2.2.1++[32]++(nth bD o.2.2.2.1 i).2.2.2.1++[10]):=by
 rw[xk h];unfold tl;rw[if_neg hk,if_neg hk2]
def EF{o:D aB}(h:cZ o≠0):ko o=([],aJ (cZ o)):=by unfold ko;rw[if_pos h]
def Ca{o:D aB}(h:cZ o=0){i:Nat}(hi:i=o.2.2.2.1.length)(hl:(jz o i).length > 1200):ko o=([],.no 2):=by
 unfold ko;rw[if_neg (by rw[h];decide),if_pos (by unfold iM;rw[<-hi];exact hl)]
def u7{o:D aB}(h:cZ o=0){i:Nat}(hi:i=o.2.2.2.1.length)(hl:(jz o i).length<=1200):ko o=(jz o i,.nil):=by
 unfold ko;rw[if_neg (by rw[h];decide),if_neg (by unfold iM;rw[<-hi];omega)];unfold iM;rw[<-hi]
@[reducible] def dW:aD:=[119,101,97,107,32]
@[reducible] def kq:aD:=[110,101,101,100]
@[reducible] def jS:aD:=[119,111,114,100]
@[reducible] def jk:aD:=[115,121,109,98,111,108]
@[reducible] def mM:aD:=[98,97,115,101]
@[reducible] def lC:aD:=[119,104,111,108,101]
@[reducible] def lg:aD:=[110,101,97,114]
def pW(o:D aB)(s:aD):D aB:=(o.1++[s],o.2)
def pX(o:D aB)(n:Int):D aB:=(o.1,o.2.1++[n],o.2.2)
def tY(o:D aB)(y:D aS):D aB:=(o.1,o.2.1,o.2.2.1++[y],o.2.2.2)
def px(o:D aB)(t:D bD):D aB:=(o.1,o.2.1,o.2.2.1,o.2.2.2.1++[t],())
def AN(x y:aD)(k:Int->Int->D aB):Option (D aB):=
 match cT x,cT y with
 |some m,some n=>some (k m n)
 |_,_=>none
def nh(o:D aB)(b:Bool):List aD->Option (D aB)
 |[a,x]=>if a=kq then some (pW o x)else if a=jS then(cT x).map (pX o)else none
 |[a,x,y]=>if a=jk then(cT y).map fun n=>tY o (x,n,b,())else if a=mM then AN x y fun m n=>px o (m,1,n,[],false,())else none
 |[a,x,y,z]=>if a=lC\/a=lg then AN x y fun m n=>px o (m,if a=lg then 3 else 2,n,z,b,())else none
 |_=>none
def py(o:D aB)(s:aD):Option (D aB):=nh o (av s dW) (parts 32 (ax s dW))
def run(f:D aB->aD->Option (D aB)):D aB->List aD->Option (D aB)
 |o,[]=>some o
 |o,s :: r=>match f o s with
  |some p=>run f p r
  |none=>none
def HC{f:D aB->aD->Option (D aB)}:∀{l:List aD} {o:D aB} {s:aD},run f o (l++[s])=(run f o l).bind fun p=>f p s
 |[],o,s=>by simp only[ey,run,fj];cases f o s <;> rfl
 |x :: r,o,s=>by
  simp only[ee,run];cases f o x with
  |none=>rfl
  |some p=>exact HC
def yv{f:D aB->aD->Option (D aB)}:∀{l m:List aD} {o p:D aB},run f o l=some p->run f o (l++m)=run f p m
 |[],m,o,p,h=>by simp only[run,df]at h;rw[h];rfl
 |x :: r,m,o,p,h=>by
  simp only[run]at h;simp only[ee,run];cases hx:f o x with
  |none=>rw[hx]at h;cases h
  |some q=>rw[hx]at h;exact yv h
def pz(s:aD):aD:=[110,101,101,100,32]++s
def pA(n:Int):aD:=[119,111,114,100,32]++ab n
def AO(y:D aS):aD:=iK y.2.2.1++([115,121,109,98,111,108,32]++(y.1++32 :: ab y.2.1))
def xm(t:D bD):aD:=
 if t.2.1=1 then[98,97,115,101,32]++(ab t.1++32 :: ab t.2.2.1)
 else if t.2.1=2 then iK t.2.2.2.2.1++([119,104,111,108,101,32]++(ab t.1++32 :: (ab t.2.2.1++32 :: t.2.2.2.1)))
 else iK t.2.2.2.2.1++([110,101,97,114,32]++(ab t.1++32 :: (ab t.2.2.1++32 :: t.2.2.2.1)))
def qF(o:D aB):List aD:=o.1.map pz++(o.2.1.map pA++(o.2.2.1.map AO++o.2.2.2.1.map xm))
def r5{α:Type}{f g:α->aD}(h:∀x,f x=g x++[10]):∀l:List α,l.flatMap f=qU 10 (l.map g)
 |[]=>rfl
 |x :: r=>by rw[bx,r5 h r,aj,Ev,h];simp
def AP(c:UInt8)(l m:List aD):qU c (l++m)=qU c l++qU c m:=by simp[qU]
def JX(o:D aB):iM o=qU 10 (qF o):=by
 unfold iM jz nS nR pw qF;rw[cb,cb,cb,cb,AP,AP,AP,
  r5 (g:=pz) (fun s=>by simp[yu,pz]) o.1,r5 (g:=pA) (fun s=>by simp[u5,pA]) o.2.1,
  r5 (g:=AO) (fun s=>by simp[Dm,AO]) o.2.2.1,
  r5 (g:=xm) (fun s=>by unfold tl xm;split <;> (try split) <;> simp) o.2.2.2.1]
 simp
structure Reads (f:D aB->aD->Option (D aB)):Prop where
 xl:∀(o:D aB) (s:aD),Nm s->f o (pz s)=some (pW o s)
 word:∀(o:D aB) (n:Int),il (-2147483648) 2147483647 n->f o (pA n)=some (pX o n)
 sym:∀(o:D aB) (y:D aS),Nm y.1->il 0 39 y.2.1->f o (AO y)=some (tY o y)
 tie:∀(o:D aB) (t:D bD),B7 t->f o (xm t)=some (px o t)
section
variable{f:D aB->aD->Option (D aB)}(h:Reads f)
include h
def EG:∀(l:List aD) (o:D aB),(∀s∈l,Nm s)->run f o (l.map pz)=some (o.1++l,o.2)
 |[],o,_=>by simp[run]
 |s :: r,o,hl=>by
  rw[aj,run,h.xl o s (hl s (by simp))];show run f (pW o s) (r.map pz)=_;rw[EG r _ fun x hx=>hl x (cd _ hx)];simp[pW]
def EH:∀(l:List Int) (o:D aB),(∀n∈l,il (-2147483648) 2147483647 n)->run f o (l.map pA)=some (o.1,o.2.1++l,o.2.2)
 |[],o,_=>by simp[run]
 |s :: r,o,hl=>by
  rw[aj,run,h.word o s (hl s (by simp))];show run f (pX o s) (r.map pA)=_;rw[EH r _ fun x hx=>hl x (cd _ hx)];simp[pX]
def HD:∀(l:List (D aS)) (o:D aB),(∀y∈l,Nm y.1/\il 0 39 y.2.1)->run f o (l.map AO)=some (o.1,o.2.1,o.2.2.1++l,o.2.2.2)
 |[],o,_=>by simp[run]
 |s :: r,o,hl=>by
  rw[aj,run,h.sym o s (hl s (by simp)).1 (hl s (by simp)).2];show run f (tY o s) (r.map AO)=_;rw[HD r _ fun x hx=>hl x (cd _ hx)];simp[tY]
def HE:∀(l:List (D bD)) (o:D aB),(∀t∈l,B7 t)->run f o (l.map xm)=some (o.1,o.2.1,o.2.2.1,o.2.2.2.1++l,())
 |[],o,_=>by simp[run]
 |s :: r,o,hl=>by
  rw[aj,run,h.tie o s (hl s (by simp))];show run f (px o s) (r.map xm)=_;rw[HE r _ fun x hx=>hl x (cd _ hx)];simp[px]
def Pw{o:D aB}(ok:kX o):run f (bV aB) (qF o)=some o:=by
 unfold qF;rw[yv (EG h o.1 _ ok.Gg),yv (EH h o.2.1 _ ok.words),yv (HD h o.2.2.1 _ ok.syms),HE h o.2.2.2.1 _ ok.MH];rfl
end
def Cb{a:UInt8}{s:aD}(h:a≠119):av (a :: s) dW=false:=by
 unfold av dW;simp[cm];intro e;exact absurd e.symm h
def UU{s:aD}(h:av s dW=false):ax s dW=s:=by unfold ax;rw[if_neg (by rw[h];decide)]
def K8(s:aD):av (dW++s) dW=true:=by unfold av dW;simp[cm]
def Sy(s:aD):ax (dW++s) dW=s:=by unfold ax;rw[if_pos (K8 s)];rfl
def K9{a b:UInt8}{s:aD}(h:b≠101):av (a :: b :: s) dW=false:=by
 unfold av dW;simp[cm];intro _ e;exact absurd e.symm h
def nI(o:D aB)(b:Bool)(s:aD)(h:av s dW=false):py o (iK b++s)=nh o b (parts 32 s):=by
 unfold py;cases b with
 |false=>show nh o (av s dW) (parts 32 (ax s dW))=_;rw[h,UU h]
 |true=>show nh o (av (dW++s) dW) (parts 32 (ax (dW++s) dW))=_;rw[K8,Sy]
def nJ{s:aD}(h:Nm s):(32:UInt8)∉s/\(10:UInt8)∉s:=⟨fun hc=>(h.2.2 _ hc).2 rfl,fun hc=>(h.2.2 _ hc).1 rfl⟩
def jK(n:Int):(32:UInt8)∉ab n:=Ez (by decide)
def ni(n:Int):(10:UInt8)∉ab n:=Ez (by decide)
def ML{s:aD}(h:Nm s):parts 32 (pz s)=[kq,s]:=by
 show parts 32 (kq++32 :: s)=_;rw[hZ (by decide),lL (nJ h).1]
def MM(n:Int):parts 32 (pA n)=[jS,ab n]:=by
 show parts 32 (jS++32 :: ab n)=_;rw[hZ (by decide),lL (jK n)]
def Px{s:aD}{n:Int}(h:Nm s):parts 32 ([115,121,109,98,111,108,32]++(s++32 :: ab n))=[jk,s,ab n]:=by
 show parts 32 (jk++32 :: (s++32 :: ab n))=_;rw[hZ (by decide),hZ (nJ h).1,lL (jK n)]
def MN(m n:Int):parts 32 ([98,97,115,101,32]++(ab m++32 :: ab n))=[mM,ab m,ab n]:=by
 show parts 32 (mM++32 :: (ab m++32 :: ab n))=_;rw[hZ (by decide),hZ (jK m),lL (jK n)]
def JY{s:aD}(m n:Int)(h:Nm s):parts 32 ([119,104,111,108,101,32]++(ab m++32 :: (ab n++32 :: s)))=[lC,ab m,ab n,s]:=by
 show parts 32 (lC++32 :: (ab m++32 :: (ab n++32 :: s)))=_;rw[hZ (by decide),hZ (jK m),hZ (jK n),lL (nJ h).1]
def MO{s:aD}(m n:Int)(h:Nm s):parts 32 ([110,101,97,114,32]++(ab m++32 :: (ab n++32 :: s)))=[lg,ab m,ab n,s]:=by
 show parts 32 (lg++32 :: (ab m++32 :: (ab n++32 :: s)))=_;rw[hZ (by decide),hZ (jK m),hZ (jK n),lL (nJ h).1]
def rr{a b n:Int}(h:il a b n)(ha : -9223372036854775808<=a)(hb:b<=9223372036854775807):cT (ab n)=some n:=Pl (b7 ha h.1) (b7 h.2 hb)
def Wj:Reads py where
 xl o s h:=by
  have:=nI o false (pz s) (Cb (by decide));rw[show iK false++pz s=pz s from rfl,ML h]at this;exact this
 word o n h:=by
  have:=nI o false (pA n) (K9 (by decide));rw[show iK false++pA n=pA n from rfl,MM]at this;rw[this];show(if jS=kq then some (pW o (ab n))else if jS=jS then(cT (ab n)).map (pX o)else none)=_;rw[if_neg (by decide),if_pos rfl,rr h (by decide) (by decide)];rfl
 sym o y h h':=by
  have:=nI o y.2.2.1 ([115,121,109,98,111,108,32]++(y.1++32 :: ab y.2.1)) (Cb (by decide));rw[Px h]at this;refine Eq.trans this ?_;dsimp only[nh];rw[if_pos rfl,rr h' (by decide) (by decide)];rfl
 tie o t h:=by
  obtain⟨at',k,ad,nm,b,_⟩:=t;have ha:=rr h.a (by decide) (by decide);have hw:=rr h.w (by decide) (by decide);simp only at ha hw;unfold xm;rcases h.k with e|e|e
  ·have hb:=h.base e
   simp only at e hb;obtain⟨rfl,rfl⟩:=hb;subst e;rw[if_pos rfl];have:=nI o false ([98,97,115,101,32]++(ab at'++32 :: ab ad)) (Cb (by decide));rw[MN]at this;refine this.trans ?_;dsimp only[nh];rw[if_neg (by decide),if_pos rfl];unfold AN;rw[ha,hw]
  ·have hn:=h.nm (by rw[show _=_ from e];decide)
   simp only at e hn;subst e;rw[if_neg (by simp),if_pos rfl];have:=nI o b ([119,104,111,108,101,32]++(ab at'++32 :: (ab ad++32 :: nm))) (K9 (by decide));rw[JY _ _ hn]at this;refine this.trans ?_;dsimp only[nh];rw[if_pos (.inl rfl),if_neg (by decide)];unfold AN;rw[ha,hw]
  ·have hn:=h.nm (by rw[show _=_ from e];decide)
   simp only at e hn;subst e;rw[if_neg (by simp),if_neg (by simp)];have:=nI o b ([110,101,97,114,32]++(ab at'++32 :: (ab ad++32 :: nm))) (Cb (by decide));rw[MO _ _ hn]at this;refine this.trans ?_;dsimp only[nh];rw[if_pos (.inr rfl),if_pos rfl];unfold AN;rw[ha,hw]
def MP{o:D aB}(h:kX o):∀l∈qF o,(10:UInt8)∉l:=by
 intro l hl;unfold qF at hl;simp only[au,bf]at hl;have hw:∀b,(10:UInt8)∉iK b:=by intro b;cases b <;> decide
 rcases hl with⟨s,hs,rfl⟩|⟨n,hn,rfl⟩|⟨y,hy,rfl⟩|⟨t,ht,rfl⟩
 ·have:=(nJ (h.Gg s hs)).2
  unfold pz;simp[this]
 ·have:=ni n
  unfold pA;simp[this]
 ·have h1:=(nJ (h.syms y hy).1).2
  have h2:=ni y.2.1;have h3:=hw y.2.2.1;unfold AO;simp[h1,h2,h3]
 ·have h1:=ni t.1
  have h2:=ni t.2.2.1;have h3:=hw t.2.2.2.2.1;unfold xm;split
  ·simp[h1,h2]
  ·rename_i hk
   have h4:=(nJ ((h.MH t ht).nm hk)).2;split <;> simp[h1,h2,h3,h4]
def Sz{o:D aB}(h:kX o):qF o≠[]:=by
 have h1:=h.w1;unfold qF;intro e;simp only[List.append_eq_nil_iff,List.map_eq_nil_iff]at e;rw[e.2.1]at h1;simp at h1
def MQ(s:aD):Option (D aB):=run py (bV aB) (parts 10 (ae s [10]))
def sM{o:D aB}(h:cZ o=0):MQ (iM o)=some o:=by
 have ok:=ng h;unfold MQ;rw[JX,MG (Sz ok) (MP ok),Pw Wj ok]
def Py{o p:D aB}(h:cZ o=0)(h':cZ p=0)(e:iM o=iM p):o=p:=by
 have a:=sM h;rw[e,sM h']at a;exact(dy a).symm
open Classical in
def cV(s:aD):D aB×Int:=
 if s.length > 1200 then(bV aB,2)
 else if h:∃o:D aB,cZ o=0/\iM o=s then(b9 h,0)else(bV aB,4)
def EI{s:aD}(h:s.length > 1200):cV s=(bV aB,2):=by unfold cV;rw[if_pos h]
def Dn{s:aD}{o:D aB}(h:¬s.length > 1200)(hf:cZ o=0)(ht:iM o=s):cV s=(o,0):=by
 have hx:∃o:D aB,cZ o=0/\iM o=s:=⟨o,hf,ht⟩
 have hc:=cz hx;unfold cV;rw[if_neg h,dif_pos hx,Py hc.1 hf (hc.2.trans ht.symm)]
def AQ{s:aD}(h:¬s.length > 1200)(hn:∀o:D aB,cZ o=0->iM o≠s):cV s=(bV aB,4):=by
 unfold cV;rw[if_neg h,dif_neg fun⟨o,h1,h2⟩=>hn o h1 h2]
def MR{s:aD}(h:¬s.length > 1200)(hr:MQ s=none):cV s=(bV aB,4):=
 AQ h fun o h1 h2=>by rw[<-h2,sM h1]at hr;cases hr
def Cc{s:aD}{o:D aB}(h:¬s.length > 1200)(hr:MQ s=some o)(hb:cZ o=0->iM o≠s):cV s=(bV aB,4):=
 AQ h fun p h1 h2=>by
  have:p=o:=by rw[<-h2,sM h1]at hr;exact dy hr
  rw[this]at h1 h2;exact hb h1 h2
def gG(o:D aB)(b:Bool)(s:aD):D aB×Bool:=
 let w:=parts 32 (ax s dW)
 if nth .str w 0=kq/\w.length=2 then(pW o (nth .str w 1),b)
 else if nth .str w 0=jS/\w.length=2 then(pX o (dZ (nth .str w 1)).1,b || (cT (nth .str w 1)).isNone)
 else if nth .str w 0=jk/\w.length=3 then(tY o (nth .str w 1,(dZ (nth .str w 2)).1,av s dW,()),b || (cT (nth .str w 2)).isNone)
 else if nth .str w 0=mM/\w.length=3 then(px o ((dZ (nth .str w 1)).1,1,(dZ (nth .str w 2)).1,[],false,()),(b || (cT (nth .str w 1)).isNone) || (cT (nth .str w 2)).isNone)
 else if(nth .str w 0=lC\/nth .str w 0=lg)/\w.length=4 then
  (px o ((dZ (nth .str w 1)).1,if nth .str w 0=lg then 3 else 2,(dZ (nth .str w 2)).1,nth .str w 3,av s dW,()),(b || (cT (nth .str w 1)).isNone) || (cT (nth .str w 2)).isNone)
 else(o,true)
def nj{s:aD}{n:Int}(h:cT s=some n):(dZ s).1=n:=by
 unfold cT at h;unfold dZ;cases ha:b6 s with
 |ok v=>rw[ha]at h;simp only at h ⊢;split at h <;> simp_all
 |range=>rw[ha]at h;cases h
 |_=>rw[ha]at h;cases h
def MS(o:D aB)(b:Bool)(s:aD):(∃p,py o s=some p/\gG o b s=(p,b))\/(py o s=none/\(gG o b s).2=true):=by
 unfold py gG;generalize hw:parts 32 (ax s dW)=w;generalize av s dW=k;have hne:=AJ 32 (ax s dW);rw[hw]at hne
 match w,hne with
 |[],hne=>exact absurd rfl hne
 |[a],_=>exact .inr ⟨rfl,by simp⟩
 |[a,x],_=>
  dsimp only[nh];simp only[show nth .str [a,x] 0=a from rfl,show nth .str [a,x] 1=x from rfl];by_cases h1:a=kq
  ·rw[if_pos h1,if_pos (show(a=kq)/\[a,x].length=2 from⟨h1,rfl⟩)];exact .inl ⟨_,rfl,rfl⟩
  ·rw[if_neg h1,if_neg (show ¬((a=kq)/\[a,x].length=2)from fun e=>h1 e.1)]
   by_cases h2:a=jS
   ·rw[if_pos h2,if_pos (show(a=jS)/\[a,x].length=2 from⟨h2,rfl⟩)]
    cases hn:cT x with
    |none=>exact .inr ⟨rfl,by simp⟩
    |some n=>exact .inl ⟨_,rfl,by rw[nj hn];simp⟩
   ·rw[if_neg h2,if_neg (show ¬((a=jS)/\[a,x].length=2)from fun e=>h2 e.1),if_neg (show ¬((a=jk)/\[a,x].length=3)from fun e=>absurd e.2 (by simp)),if_neg (show ¬((a=mM)/\[a,x].length=3)from fun e=>absurd e.2 (by simp)),if_neg (show ¬((a=lC\/a=lg)/\[a,x].length=4)from fun e=>absurd e.2 (by simp))];exact .inr ⟨rfl,rfl⟩
 |[a,x,y],_=>
  dsimp only[nh];simp only[show nth .str [a,x,y] 0=a from rfl,show nth .str [a,x,y] 1=x from rfl,show nth .str [a,x,y] 2=y from rfl];rw[if_neg (show ¬((a=kq)/\[a,x,y].length=2)from fun e=>absurd e.2 (by simp)),if_neg (show ¬((a=jS)/\[a,x,y].length=2)from fun e=>absurd e.2 (by simp))];by_cases h1:a=jk
  ·rw[if_pos h1,if_pos (show(a=jk)/\[a,x,y].length=3 from⟨h1,rfl⟩)]
   cases hn:cT y with
   |none=>exact .inr ⟨rfl,by simp⟩
   |some n=>exact .inl ⟨_,rfl,by rw[nj hn];simp⟩
  ·rw[if_neg h1,if_neg (show ¬((a=jk)/\[a,x,y].length=3)from fun e=>h1 e.1)]
   by_cases h2:a=mM
   ·rw[if_pos h2,if_pos (show(a=mM)/\[a,x,y].length=3 from⟨h2,rfl⟩)]
    unfold AN;cases hm:cT x with
    |none=>exact .inr ⟨rfl,by simp⟩
    |some m=>
     cases hn:cT y with
     |none=>exact .inr ⟨rfl,by simp⟩
     |some n=>exact .inl ⟨_,rfl,by rw[nj hn,nj hm];simp⟩
   ·rw[if_neg h2,if_neg (show ¬((a=mM)/\[a,x,y].length=3)from fun e=>h2 e.1),if_neg (show ¬((a=lC\/a=lg)/\[a,x,y].length=4)from fun e=>absurd e.2 (by simp))];exact .inr ⟨rfl,rfl⟩
 |[a,x,y,z],_=>
  dsimp only[nh];simp only[show nth .str [a,x,y,z] 0=a from rfl,show nth .str [a,x,y,z] 1=x from rfl,show nth .str [a,x,y,z] 2=y from rfl,show nth .str [a,x,y,z] 3=z from rfl];rw[if_neg (show ¬((a=kq)/\[a,x,y,z].length=2)from fun e=>absurd e.2 (by simp)),if_neg (show ¬((a=jS)/\[a,x,y,z].length=2)from fun e=>absurd e.2 (by simp)),if_neg (show ¬((a=jk)/\[a,x,y,z].length=3)from fun e=>absurd e.2 (by simp)),if_neg (show ¬((a=mM)/\[a,x,y,z].length=3)from fun e=>absurd e.2 (by simp))];by_cases h1:a=lC\/a=lg
  ·rw[if_pos h1,if_pos (show(a=lC\/a=lg)/\[a,x,y,z].length=4 from⟨h1,rfl⟩)]
   unfold AN;cases hm:cT x with
   |none=>exact .inr ⟨rfl,by simp⟩
   |some m=>
    cases hn:cT y with
    |none=>exact .inr ⟨rfl,by simp⟩
    |some n=>exact .inl ⟨_,rfl,by rw[nj hn,nj hm];simp⟩
  ·rw[if_neg h1,if_neg (show ¬((a=lC\/a=lg)/\[a,x,y,z].length=4)from fun e=>h1 e.1)];exact .inr ⟨rfl,rfl⟩
 |a :: x :: y :: z :: u :: r,_=>exact .inr ⟨rfl,by simp⟩
def Pz(o:D aB)(s:aD):(gG o true s).2=true:=by
 unfold gG;simp only[Bool.true_or];split
 ·rfl
 ·split
  ·rfl
  ·split
   ·rfl
   ·split
    ·rfl
    ·split <;> rfl
def PA(o:D aB)(b:Bool)(s:aD) :
  (gG o b s).1.1.length<=o.1.length+1/\(gG o b s).1.2.1.length<=o.2.1.length+1/\(gG o b s).1.2.2.1.length<=o.2.2.1.length+1/\(gG o b s).1.2.2.2.1.length<=o.2.2.2.1.length+1:=by
 have e:∀{α:Type} (l:List α) (x:α),(l++[x]).length<=l.length+1:=fun l x=>by simp
 have e0:∀n:Nat,n<=n+1:=fun n=>Nat.le_succ n
 unfold gG;simp only;split
 ·exact⟨e _ _,e0 _,e0 _,e0 _⟩
 ·split
  ·exact⟨e0 _,e _ _,e0 _,e0 _⟩
  ·split
   ·exact⟨e0 _,e0 _,e _ _,e0 _⟩
   ·split
    ·exact⟨e0 _,e0 _,e0 _,e _ _⟩
    ·split
     ·exact⟨e0 _,e0 _,e0 _,e _ _⟩
     ·exact⟨e0 _,e0 _,e0 _,e0 _⟩
structure lD (L:List aD) (i:Nat) (o:D aB) (b:Bool):Prop where
 le:i<=L.length
 st:(run py (bV aB) (L.take i)=some o/\b=false)\/(run py (bV aB) (L.take i)=none/\b=true)
 l1:o.1.length<=i
 l2:o.2.1.length<=i
 l3:o.2.2.1.length<=i
 l4:o.2.2.2.1.length<=i
def lD.zero(L:List aD):lD L 0 (bV aB) false:=⟨ar _,.inl ⟨rfl,rfl⟩,ak _,ak _,ak _,ak _⟩
def lD.next{L:List aD}{i:Nat}{o:D aB}{b:Bool}(h:lD L i o b)(hi:i<L.length):lD L (i+1) (gG o b (nth .str L i)).1 (gG o b (nth .str L i)).2:=by
 obtain⟨a1,a2,a3,a4⟩:=PA o b (nth .str L i);refine⟨hi,?_,by have:=h.l1;omega,by have:=h.l2;omega,by have:=h.l3;omega,by have:=h.l4;omega⟩;rw[gY (t:=.str) hi,HC];rcases h.st with⟨hr,hb⟩|⟨hr,hb⟩
 ·rw[hr,fj]
  rcases MS o b (nth .str L i)with⟨p,h1,h2⟩|⟨h1,h2⟩
  ·rw[h2];exact .inl ⟨h1,hb⟩
  ·exact .inr ⟨h1,h2⟩
 ·rw[hr,hb];exact .inr ⟨rfl,Pz o _⟩
abbrev Rd:=aD->aD×Int×Int
structure iy (rd:Rd):Prop where
 code:∀s,(rd s).2.2=0\/(rd s).2.2=5
 mo:∃K:List aD,K.length<=6/\∀s,(rd s).2.2=0->s∈K
def gB(ns l:List aD):List aD:=l.foldl (fun ns s=>if ns.any (· == s)=true then ns else ns++[s]) ns
def jt(rd:Rd)(s:aD):D aB:=(cV (rd s).1).1
def eL(rd:Rd)(s:aD):Int:=if(rd s).2.2=0 then(cV (rd s).1).2 else(rd s).2.2
def jc(rd:Rd):Nat->Nat->List aD->List (D aB)->List aD×List (D aB)×Int
 |0,_,ns,os=>(ns,os,0)
 |k+1,i,ns,os=>
  if i<ns.length then
   if eL rd (nth .str ns i)=0 then jc rd k (i+1) (gB ns (jt rd (nth .str ns i)).1) (os++[jt rd (nth .str ns i)])
   else([],[],eL rd (nth .str ns i))
  else(ns,os,0)
def aT(rd:Rd)(root:aD):List aD×List (D aB)×Int:=jc rd 7 0 [root] []
def Cd(s:aD):((cV s).2=0/\cZ (cV s).1=0/\iM (cV s).1=s)\/cV s=(bV aB,2)\/cV s=(bV aB,4):=by
 by_cases h:s.length > 1200
 ·exact .inr (.inl (EI h))
 ·by_cases h2:∃o:D aB,cZ o=0/\iM o=s
  ·obtain⟨o,h3,h4⟩:=h2
   rw[Dn h h3 h4];exact .inl ⟨rfl,h3,h4⟩
  ·exact .inr (.inr (AQ h fun o h3 h4=>h2 ⟨o,h3,h4⟩))
def zE(s:aD):0<=(cV s).2:=by
 rcases Cd s with⟨h,_⟩|h|h <;> rw[h] <;> decide
def u9{s:aD}(h:(cV s).2=0):cZ (cV s).1=0:=by
 rcases Cd s with⟨_,h,_⟩|h'|h'
 ·exact h
 ·rw[h']at h;cases h
 ·rw[h']at h;cases h
def Dp{rd:Rd}(h:iy rd)(s:aD):0<=eL rd s:=by
 unfold eL;split
 ·exact zE _
 ·rcases h.code s with e|e <;> rw[e] <;> decide
def kd{rd:Rd}(h:iy rd){s:aD}(e:eL rd s=0):(rd s).2.2=0/\(cV (rd s).1).2=0:=by
 unfold eL at e;rcases h.code s with c|c
 ·rw[if_pos c]at e;exact⟨c,e⟩
 ·rw[if_neg (by rw[c];decide),c]at e;cases e
def xn{rd:Rd}{s:aD}(e:¬(rd s).2.2=0):eL rd s=(rd s).2.2:=by unfold eL;rw[if_neg e]
def tm{rd:Rd}{s:aD}(e:(rd s).2.2=0):eL rd s=(cV (rd s).1).2:=by unfold eL;rw[if_pos e]
def HF(ns:List aD):gB ns []=ns:=rfl
def xp(ns l:List aD)(s:aD):gB ns (s :: l)=gB (if ns.any (· == s)=true then ns else ns++[s]) l:=rfl
def PB(ns l:List aD)(s:aD):gB ns (l++[s])=if(gB ns l).any (· == s)=true then gB ns l else gB ns l++[s]:=by
 unfold gB;rw[List.foldl_append];rfl
def La{ns:List aD}{s:aD}:ns.any (· == s)=true↔s∈ns:=by
 rw[cw];constructor
 ·rintro⟨x,hx,e⟩;rw[<-(by simpa using e:x=s)];exact hx
 ·intro h;exact⟨s,h,by simp⟩
def oM:∀(l ns:List aD),∃r,gB ns l=ns++r/\r.length<=l.length/\∀s∈r,s∈l
 |[],ns=>⟨[],by simp[HF],by simp,by simp⟩
 |x :: l,ns=>by
  rw[xp];split
  ·obtain⟨r,h1,h2,h3⟩:=oM l ns
   exact⟨r,h1,by simp;omega,fun s hs=>by simp[h3 s hs]⟩
  ·obtain⟨r,h1,h2,h3⟩:=oM l (ns++[x])
   refine⟨x :: r,by rw[h1];simp,by simp;omega,fun s hs =>?_⟩;rcases ag.1 hs with rfl|hs
   ·simp
   ·simp[h3 s hs]
def vb:∀(l ns:List aD),ns.Nodup->(gB ns l).Nodup
 |[],ns,h=>h
 |x :: l,ns,h=>by
  rw[xp];split
  ·exact vb l ns h
  ·rename_i hx
   refine vb l _ ?_;rw[fb];refine⟨h,by simp,fun a ha b hb e=>hx (La.2 ?_)⟩;simp at hb;subst hb;exact e▸ha
def HG:∀(l ns:List aD),∀s∈l,s∈gB ns l
 |[],_,s,h=>by simp at h
 |x :: l,ns,s,h=>by
  rw[xp];rcases ag.1 h with rfl|h
  ·split
   ·rename_i hx
    obtain⟨r,h1,_⟩:=oM l ns;rw[h1];exact eg _ (La.1 hx)
   ·obtain⟨r,h1,_⟩:=oM l (ns++[s])
    rw[h1];simp
  ·exact HG l _ s h
def EJ{ns l:List aD}{i:Nat}(h:i<l.length):gB ns (l.take (i+1))=if(gB ns (l.take i)).any (· == nth .str l i)=true then gB ns (l.take i)else gB ns (l.take i)++[nth .str l i]:=by
 rw[gY (t:=.str) h,PB]
def sN{t:Ty}{a b:List (D t)}{i:Nat}(h:i<a.length):nth t (a++b) i=nth t a i:=by rw[pk,if_pos h]
structure kY (rd:Rd) (root:aD) (i:Nat) (ns:List aD) (os:List (D aB)):Prop where
 eq:jc rd (7-i) i ns os=aT rd root
 le:i<=6
 lo:i<=ns.length
 pos:0<ns.length
 len:os.length=i
 hi:ns.length<=1+4*i
 head:nth .str ns 0=root
 nd:ns.Nodup
 xq:∀j,j<i->eL rd (nth .str ns j)=0/\nth aB os j=jt rd (nth .str ns j)
 want:∀j,j<ns.length->j≠0->∃k,k<i/\k<j/\nth .str ns j∈(nth aB os k).1
 xl:∀j,j<i->∀s∈(nth aB os j).1,s∈ns
def kY.zero(rd:Rd)(root:aD):kY rd root 0 [root] []:=
 ⟨rfl,by omega,by simp,by simp,rfl,by simp,rfl,by simp,fun j h=>by omega,fun j h h'=>by simp at h;omega,fun j h=>by omega⟩
def kY.room{rd:Rd}{root:aD}{i:Nat}{ns:List aD}{os:List (D aB)}(ok:iy rd)(h:kY rd root i ns os)(hi:i<ns.length)(hf:eL rd (nth .str ns i)=0):i+1<=6:=by
 obtain⟨K,hK,hm⟩:=ok.mo;have hsub:∀y∈ns.take (i+1),y∈K:=by
  intro y hy;obtain⟨j,hj,rfl⟩:=fZ (t:=.str) hy;rw[bh]at hj;rw[AH (t:=.str) (by omega)];refine hm _ (kd ok ?_).1;rcases bg j i with hl|hl
  ·exact(h.xq j hl).1
  ·rw[show j=i by omega];exact hf
 have:=Es (h.nd.sublist (List.take_sublist (i+1) ns)) hsub;rw[bh]at this;omega
def kY.fuel{rd:Rd}{root:aD}{i:Nat}{ns:List aD}{os:List (D aB)}(h:kY rd root i ns os):jc rd (6-i+1) i ns os=aT rd root:=by
 rw[<-h.eq];congr 1;have:=h.le;omega
def kY.bad{rd:Rd}{root:aD}{i:Nat}{ns:List aD}{os:List (D aB)}(h:kY rd root i ns os)(hi:i<ns.length)(hf:¬eL rd (nth .str ns i)=0) :
  aT rd root=([],[],eL rd (nth .str ns i)):=by
 rw[<-h.fuel,jc,if_pos hi,if_neg hf]
def kY.done{rd:Rd}{root:aD}{i:Nat}{ns:List aD}{os:List (D aB)}(h:kY rd root i ns os)(hi:¬i<ns.length):aT rd root=(ns,os,0):=by
 rw[<-h.fuel,jc,if_neg hi]
def AR{rd:Rd}(ok:iy rd){s:aD}(hf:eL rd s=0):kX (jt rd s):=ng (u9 (kd ok hf).2)
def kY.next{rd:Rd}{root:aD}{i:Nat}{ns:List aD}{os:List (D aB)}(ok:iy rd)(h:kY rd root i ns os)(hi:i<ns.length)(hf:eL rd (nth .str ns i)=0) :
  kY rd root (i+1) (gB ns (jt rd (nth .str ns i)).1) (os++[jt rd (nth .str ns i)]):=by
 have hr:=h.room ok hi hf;have ho:=AR ok hf;obtain⟨r,h1,h2,h3⟩:=oM (jt rd (nth .str ns i)).1 ns;have hn4:=ho.n4;have hlen:=h.len;have hhi:=h.hi;have hpos:=h.pos;have hos:nth aB (os++[jt rd (nth .str ns i)]) i=jt rd (nth .str ns i):=by rw[pk,if_neg (by omega),h.len,Nat.sub_self];rfl
 have hns:∀j,j<ns.length->nth .str (gB ns (jt rd (nth .str ns i)).1) j=nth .str ns j:=fun j hj=>by rw[h1,sN (t:=.str) hj]
 have hoj:∀j,j<i->nth aB (os++[jt rd (nth .str ns i)]) j=nth aB os j:=fun j hj=>sN (t:=aB) (by omega)
 refine⟨?_,hr,by rw[h1,aw];omega,by rw[h1,aw];omega,by rw[aw,h.len];rfl,by rw[h1,aw];omega,
  by rw[hns 0 hpos];exact h.head,vb _ _ h.nd,fun j hj =>?_,fun j hj h0 =>?_,fun j hj s hs =>?_⟩
 ·rw[<-h.fuel,jc,if_pos hi,if_pos hf];congr 1;omega
 ·rcases bg j i with hl|hl
  ·rw[hns j (by omega),hoj j hl];exact h.xq j hl
  ·rw[show j=i by omega,hns i hi,hos];exact⟨hf,rfl⟩
 ·rcases bg j ns.length with hl|hl
  ·obtain⟨k,k1,k2,k3⟩:=h.want j hl h0
   exact⟨k,by omega,k2,by rw[hns j hl,hoj k k1];exact k3⟩
  ·refine⟨i,by omega,by omega,?_⟩
   rw[hos,h1,pk,if_neg (by omega)];refine h3 _ (dJ (t:=.str) ?_);rw[h1,aw]at hj;omega
 ·rcases bg j i with hl|hl
  ·rw[hoj j hl]at hs
   rw[h1];exact eg _ (h.xl j hl s hs)
  ·rw[show j=i by omega,hos]at hs
   exact HG _ _ s hs
structure Scope (rd:Rd) (root:aD) (ns:List aD) (os:List (D aB)):Prop where
 le:ns.length<=6
 pos:0<ns.length
 len:os.length=ns.length
 head:nth .str ns 0=root
 nd:ns.Nodup
 xq:∀j,j<ns.length->eL rd (nth .str ns j)=0/\nth aB os j=jt rd (nth .str ns j)
 want:∀j,j<ns.length->j≠0->∃k,k<j/\nth .str ns j∈(nth aB os k).1
 xl:∀j,j<ns.length->∀s∈(nth aB os j).1,s∈ns
def Ce{rd:Rd}{root:aD}(ok:iy rd):∀(m i:Nat) (ns:List aD) (os:List (D aB)),m=7-i->kY rd root i ns os->
  (∃f,0<f/\aT rd root=([],[],f))\/(∃ns os,aT rd root=(ns,os,0)/\Scope rd root ns os)
 |0,i,ns,os,hm,h=>by have:=h.le;omega
 |m+1,i,ns,os,hm,h=>by
  by_cases hi:i<ns.length
  ·by_cases hf:eL rd (nth .str ns i)=0
   ·exact Ce ok m (i+1) _ _ (by omega) (h.next ok hi hf)
   ·have:=Dp ok (nth .str ns i)
    exact .inl ⟨_,by omega,h.bad hi hf⟩
  ·have h1:=h.lo
   have h2:=h.le;have e:i=ns.length:=by omega
   subst e;exact .inr ⟨ns,os,h.done hi,h2,h.pos,h.len,h.head,h.nd,h.xq,fun j hj h0=>let⟨k,_,k2,k3⟩:=h.want j hj h0;⟨k,k2,k3⟩,h.xl⟩
def zF{rd:Rd}(ok:iy rd)(root:aD):(∃f,0<f/\aT rd root=([],[],f))\/(∃ns os,aT rd root=(ns,os,0)/\Scope rd root ns os):=
 Ce ok 7 0 _ _ rfl (kY.zero rd root)
def r6{rd:Rd}(ok:iy rd){root:aD}(h:(aT rd root).2.2=0):Scope rd root (aT rd root).1 (aT rd root).2.1:=by
 rcases zF ok root with⟨f,hf,e⟩|⟨ns,os,e,h'⟩
 ·rw[e]at h;simp only at h;omega
 ·rw[e];exact h'
def Cf(rd:Rd):∀(k i:Nat) (ns:List aD) (os:List (D aB)),(jc rd k i ns os).2.2=0->∀s∈ns,s∈(jc rd k i ns os).1
 |0,_,ns,os,_=>fun s hs=>hs
 |k+1,i,ns,os,h=>by
  unfold jc at h ⊢;split
  ·rename_i hi
   rw[if_pos hi]at h;split
   ·rename_i hf
    rw[if_pos hf]at h;obtain⟨r,h1,_⟩:=oM (jt rd (nth .str ns i)).1 ns;intro s hs;exact Cf rd k _ _ _ h s (by rw[h1];exact eg _ hs)
   ·rename_i hf
    rw[if_neg hf]at h;exact absurd h hf
  ·exact fun s hs=>hs
def xr{rd rd':Rd}:∀(k i:Nat) (ns:List aD) (os:List (D aB)),(jc rd k i ns os).2.2=0->(∀s∈(jc rd k i ns os).1,rd' s=rd s)->jc rd' k i ns os=jc rd k i ns os
 |0,_,ns,os,_,_=>rfl
 |k+1,i,ns,os,h,hs=>by
  by_cases hi:i<ns.length
  ·have hm:=hs _ (Cf rd (k+1) i ns os h _ (dJ (t:=.str) hi))
   have e1:eL rd' (nth .str ns i)=eL rd (nth .str ns i):=by unfold eL;rw[hm]
   have e2:jt rd' (nth .str ns i)=jt rd (nth .str ns i):=by unfold jt;rw[hm]
   unfold jc at h hs ⊢;rw[if_pos hi]at h hs ⊢;rw[if_pos hi,e1,e2];by_cases hf:eL rd (nth .str ns i)=0
   ·rw[if_pos hf]at h hs ⊢
    rw[if_pos hf];exact xr k _ _ _ h hs
   ·rw[if_neg hf,if_neg hf]
  ·unfold jc;rw[if_neg hi,if_neg hi]
def JZ{rd rd':Rd}{root:aD}(h:(aT rd root).2.2=0)(hs:∀s∈(aT rd root).1,rd' s=rd s):aT rd' root=aT rd root:=xr _ _ _ _ h hs
def jA{x:cH}(h:x.2.1.1.length<=6):iy (aG x):=by
 refine⟨fun s =>?_,x.2.1.1.map po,by rw[ec];exact h,fun s hs =>?_⟩
 ·unfold aG;split
  ·exact .inl rfl
  ·exact .inr rfl
 ·by_cases c:cX cI x.2.1.1 s=true
  ·obtain⟨y,hy,e⟩:=l5.1 c
   rw[<-e];exact bw hy
  ·rw[lJ (by simpa using c)]at hs;cases hs
def tZ:∀{s:List Int} {l:List (D bA)} {out o:List Int},gQ l s out=some o->∃ext,o=out++ext/\ext.length=s.length:=by
 intro s;induction s with
 |nil=>intro l out o h;simp only[gQ,df]at h;exact⟨[],by simp[h],rfl⟩
 |cons n r ih=>
  intro l out o h;simp only[gQ]at h;split at h
  ·cases h
  ·obtain⟨ext,h1,h2⟩:=ih h
   exact⟨_ :: ext,by rw[h1,cu];rfl,by simp[h2]⟩
def HH{l:List (D bA)}{s o:List Int}{k:Nat}(hk:k<s.length)(h:gQ l (s.drop k) (o.take k)=some o)(hl:o.length=s.length) :
  (nth (.int .i64) o k:Int)=gz l (cM (nth (.int .i64) s k)) 40 0/\gz l (cM (nth (.int .i64) s k)) 40 0+cM (nth (.int .i64) s k)<=256/\
  gQ (l++[(gz l (cM (nth (.int .i64) s k)) 40 0,cM (nth (.int .i64) s k),())]) (s.drop (k+1)) (o.take (k+1))=some o:=by
 rw[rV hk]at h;split at h
 ·cases h
 ·rename_i hle
  obtain⟨ext,h1,h2⟩:=tZ h;have hlen:(o.take k).length=k:=by rw[bh];omega
  have hget:o[k]?=some (gz l (cM (nth (.int .i64) s k)) 40 0):=by
   rw[h1,cu,List.getElem?_append_right (by omega),hlen,Nat.sub_self];rfl
  refine⟨iA (t:=.int .i64) hget,by omega,?_⟩;have:o.take (k+1)=o.take k++[gz l (cM (nth (.int .i64) s k)) 40 0]:=by
   rw[dx,hget];rfl
  rw[this];exact h
def MT{s:List Int}{l:List (D bA)}(h:(cN (s,l)).2.isNil=true) :
  s.length<=6/\l.length<=20/\(∀j,j<s.length->1<=(nth (.int .i64) s j:Int)/\(nth (.int .i64) s j:Int)<=40)/\(∀y∈l,nO y)/\gQ l s []=some (cN (s,l)).1/\(cN (s,l)).1.length=s.length:=by
 by_cases h1:6<s.length\/20<l.length
 ·rw[y5 h1]at h;cases h
 ·by_cases h2:AF s=true\/AG l=true
  ·unfold cN at h;rw[if_neg h1,if_pos h2]at h;cases h
  ·have hs:∀j,j<s.length->1<=(nth (.int .i64) s j:Int)/\(nth (.int .i64) s j:Int)<=40:=by
    intro j hj;apply aq;intro hn;rw[y7 h1 hj hn]at h;cases h
   have ht:∀j,j<l.length->nO (nth bA l j):=by
    intro j hj;apply aq;intro hn;rw[wT h1 hj hn]at h;cases h
   rw[wU h1 hs ht]at h ⊢;refine⟨by omega,by omega,hs,fun y hy =>?_,?_⟩
   ·obtain⟨i,hi,e⟩:=fZ (t:=bA) hy;rw[<-e];exact ht i hi
   ·split at h
    ·rename_i o ho
     obtain⟨ext,k1,k2⟩:=tZ ho;simp only[ho];exact⟨aa,by rw[k1];simpa using k2⟩
    ·cases h
end Go.Mrl
namespace Go.Mrl
open Go.Vg
def J0{n:Int}:n<=cM n/\cM n<n+16:=by unfold cM;omega
end Go.Mrl

namespace Go.Mrl
open Go.Vg
def jb(s:List Int):Nat->Int
 |0=>0
 |k+1=>jb s k+cM (nth (.int .i64) s k)
def ve(l:List (Int×Int×Unit))(S:Int):Prop:=0<=S/\(∃m:Nat,S=16*(m:Int))/\(∀y∈l,y.1+y.2.1<=S)/\∀p:Int,0<=p->p<S->∃y∈l,y.1<=p/\p<y.1+y.2.1
def ve.nil:ve [] 0:=⟨az _,⟨0,rfl⟩,fun y hy=>by simp at hy,fun p h1 h2=>by omega⟩
def ve.snoc{l:List (Int×Int×Unit)}{S m:Int}(h:ve l S)(hm:0<m)(h16:∃k:Nat,m=16*(k:Int)):ve (l++[(S,m,())]) (S+m):=by
 obtain⟨h1,⟨a,h2⟩,h3,h4⟩:=h;obtain⟨k,h5⟩:=h16;refine⟨by omega,⟨a+k,by omega⟩,fun y hy =>?_,fun p h6 h7 =>?_⟩
 ·rcases au.1 hy with hy|hy
  ·have:=h3 y hy;omega
  ·simp only[db]at hy;subst hy;simp only;omega
 ·by_cases c:p<S
  ·obtain⟨y,hy,h8⟩:=h4 p h6 c
   exact⟨y,by simp[hy],h8⟩
  ·exact⟨(S,m,()),by simp,by simp only;omega⟩
def ve.base{l:List (Int×Int×Unit)}{S many:Int}(h:ve l S)(hm:0<many):∀(n:Nat) (k:Nat),16*(k:Int)<=S->S-16*(k:Int)<16*(n:Int)->gz l many n (16*(k:Int))=S:=by
 obtain⟨h1,⟨a,h2⟩,h3,h4⟩:=h;intro n;induction n with
 |zero=>intro k hk hn;omega
 |succ n ih=>
  intro k hk hn;by_cases c:16*(k:Int)=S
  ·rw[c]
   apply qh;refine B3 fun j hj =>?_
   have:=h3 _ (dJ (t:=bA) hj);rw[JK];simp only;omega
  ·obtain⟨y,hy,h8,h9⟩:=h4 (16*(k:Int)) (by omega) (by omega)
   have hf:ja (16*(k:Int),many,()) l=false:=by
    obtain⟨j,hj,e⟩:=fZ (t:=bA) hy;refine yZ hj ?_;rw[e,wS];simp only;omega
   rw[Em hf,show 16*(k:Int)+16=16*((k+1:Nat):Int) by omega];exact ih (k+1) (by omega) (by omega)
def UW{n:Int}(h:1<=n):∃k:Nat,cM n=16*(k:Int):=⟨((n+15) / 16).toNat,by unfold cM;omega⟩
def MU{s:List Int}(hs:∀j,j<s.length->1<=(nth (.int .i64) s j:Int)/\(nth (.int .i64) s j:Int)<=40):∀d k,k+d<=s.length->jb s k<=jb s (k+d):=by
 intro d;induction d with
 |zero=>intro k _;exact az _
 |succ d ih=>
  intro k hk;have h1:=ih k (by omega);have h2:=hs (k+d) (by omega);have h3:=lr h2.1 h2.2;have e:jb s (k+(d+1))=jb s (k+d)+cM (nth (.int .i64) s (k+d)):=rfl;rw[e];omega
def SA{s:List Int}(hs:∀j,j<s.length->1<=(nth (.int .i64) s j:Int)/\(nth (.int .i64) s j:Int)<=40):∀(d k:Nat) {l:List (Int×Int×Unit)} {o:List Int},k+d=s.length->ve l (jb s k)->jb s k<=256->
  o.length=s.length->gQ l (s.drop k) (o.take k)=some o->jb s s.length<=256/\∀i,k<=i->i<s.length->(nth (.int .i64) o i:Int)=jb s i:=by
 intro d;induction d with
 |zero=>
  intro k l o hk hc hle hl h;have e:k=s.length:=by omega
  subst e;exact⟨hle,fun i h1 h2=>by omega⟩
 |succ d ih=>
  intro k l o hk hc hle hl h;have h2:=hs k (by omega);have h3:=lr h2.1 h2.2;have hb:=hc.base (many:=cM (nth (.int .i64) s k)) (by omega) 40 0 (by have:=hc.1;omega) (by omega);simp only[Int.natCast_zero,Int.mul_zero]at hb;obtain⟨n1,n2,n3⟩:=HH (k:=k) (by omega) h hl;rw[hb]at n1 n2 n3;have e:jb s (k+1)=jb s k+cM (nth (.int .i64) s k):=rfl;obtain⟨r1,r2⟩:=ih (k+1) (by omega) (l:=l++[(jb s k,cM (nth (.int .i64) s k),())]) (by rw[e];exact hc.snoc (by omega) (UW h2.1)) (by omega) hl n3;refine⟨r1,fun i h4 h5 =>?_⟩;rcases bg k i with c|c
  ·exact r2 i (by omega) h5
  ·rw[show i=k by omega];exact n1
def PC{s:List Int}(h:(cN (s,[])).2.isNil=true):(cN (s,[])).1.length=s.length/\(∀j,j<s.length->1<=(nth (.int .i64) s j:Int)/\(nth (.int .i64) s j:Int)<=40)/\
  jb s s.length<=256/\∀i,i<s.length->(nth (.int .i64) (cN (s,[])).1 i:Int)=jb s i:=by
 obtain⟨_,_,h3,_,h5,h6⟩:=MT h;obtain⟨r1,r2⟩:=SA h3 s.length 0 (l:=[]) (o:=(cN (s,[])).1) (by omega) ve.nil (by simp[jb]) h6 (by rw[ef,fk];exact h5);exact⟨h6,h3,r1,fun i hi=>r2 i (ar _) hi⟩
def bZ(l:List (D aB)):List Int:=l.map fun o=>(o.2.1.length:Int)
def dB(l:List (D aB)):Ws:=l.map fun o=>o.2.1
def pB(l:List (D aB)):(bZ l).length=l.length:=by simp[bZ]
def nK(l:List (D aB)):(dB l).length=l.length:=by simp[dB]
def ru{t u:Ty}{f:D u->D t}{l:List (D u)}{i:Nat}(h:i<l.length):nth t (l.map f) i=f (nth u l i):=by
 unfold nth;rw[List.getD_eq_getElem?_getD,List.getD_eq_getElem?_getD,List.getElem?_map,List.getElem?_eq_getElem h];rfl
def Cg{l:List (D aB)}{i:Nat}(h:i<l.length):(nth (.int .i64) (bZ l) i:Int)=((nth aB l i).2.1.length:Int):=ru (u:=aB) (t:=.int .i64) h
def vf{l:List (D aB)}{i:Nat}(h:i<l.length):nth jj (dB l) i=(nth aB l i).2.1:=ru (u:=aB) (t:=jj) h
def zG{l:List (D aB)}{i:Nat}(h:i<l.length):bZ (l.take (i+1))=bZ (l.take i)++[((nth aB l i).2.1.length:Int)]:=by
 unfold bZ;rw[lI (t:=aB) h];simp
def zH{l:List (D aB)}{i:Nat}(h:i<l.length):dB (l.take (i+1))=dB (l.take i)++[(nth aB l i).2.1]:=by
 unfold dB;rw[lI (t:=aB) h];simp
def AS(l:List (D aB))(b:List Int)(i:Nat)(ts:List (D bD)):List Pt:=ts.map fun t=>((i:Int),t.1,(gR l b i t).1,())
def qV(l:List (D aB))(b:List Int):List (D aB)->Nat->List Pt
 |[],_=>[]
 |o :: r,i=>AS l b i o.2.2.2.1++qV l b r (i+1)
def Lb{l:List (D aB)}{b:List Int}{i:Nat}:∀{ts:List (D bD)} {out:List Pt},(n9 l b i ts out).2.isNil=true->n9 l b i ts out=(out++AS l b i ts,.nil)/\∀t∈ts,(gR l b i t).2.isNil=true
 |[],out,_=>⟨by simp[n9,AS],by simp⟩
 |t :: r,out,h=>by
  rw[n9]at h ⊢;by_cases c:(gR l b i t).2.isNil=true
  ·rw[if_pos c]at h ⊢
   obtain⟨h1,h2⟩:=Lb h;refine⟨by rw[h1];simp[AS],fun u hu =>?_⟩;rcases ag.1 hu with rfl|hu
   ·exact c
   ·exact h2 u hu
  ·rw[if_neg c]at h;exact absurd h c
def Lc{l:List (D aB)}{b:List Int}:∀{os:List (D aB)} {i:Nat} {out:List Pt},(nP l b os i out).2.isNil=true->nP l b os i out=(out++qV l b os i,.nil)/\
  ∀k,k<os.length->∀t∈(nth aB os k).2.2.2.1,(gR l b ((i+k:Nat):Int) t).2.isNil=true
 |[],i,out,_=>⟨by simp[nP,qV],fun k hk=>by simp at hk⟩
 |o :: r,i,out,h=>by
  rw[nP]at h ⊢;unfold oy at h ⊢;by_cases c:(n9 l b i o.2.2.2.1 out).2.isNil=true
  ·rw[if_pos c]at h ⊢
   obtain⟨h1,h2⟩:=Lb c;obtain⟨h3,h4⟩:=Lc h;refine⟨by rw[h3,h1];simp[qV],fun k hk =>?_⟩;rcases k with _|k
   ·exact h2
   ·have:=h4 k (by simpa using hk)
    rw[show i+1+k=i+(k+1) by omega]at this;exact this
  ·rw[if_neg c]at h;exact absurd h c
def SB{l:List (D aB)}{b:List Int}(h:(iI (l,b)).2.isNil=true):b.length=l.length/\pF b/\(iI (l,b)).1=qV l b l 0/\∀k,k<l.length->∀t∈(nth aB l k).2.2.2.1,(gR l b (k:Int) t).2.isNil=true:=by
 have h':=h;unfold iI at h ⊢;split at h
 ·cases h
 ·rename_i hl
  split at h
  ·rename_i hb
   obtain⟨h1,h2⟩:=Lc h;refine⟨aq hl,hb,?_,fun k hk t ht=>by have:=h2 k hk t ht;rwa [dh]at this⟩;rw[if_neg hl,if_pos hb,h1];rfl
  ·cases h
def AT{l:List (D aB)}{b:List Int}:∀{os:List (D aB)} {i:Nat} {p:Pt},p∈qV l b os i->∃k t,k<os.length/\t∈(nth aB os k).2.2.2.1/\p=(((i+k:Nat):Int),t.1,(gR l b ((i+k:Nat):Int) t).1,())
 |[],i,p,h=>by simp[qV]at h
 |o :: r,i,p,h=>by
  rcases au.1 h with h|h
  ·obtain⟨t,ht,rfl⟩:=bf.1 h
   exact⟨0,t,by simp,ht,rfl⟩
  ·obtain⟨k,t,hk,ht,rfl⟩:=AT h
   exact⟨k+1,t,by simp;omega,ht,by rw[show i+1+k=i+(k+1) by omega]⟩
def Ch(x:List Int×List (D bA)):Told (cN x).2:=by
 unfold cN;split
 ·rfl
 ·split
  ·rfl
  ·split <;> rfl
def SC(x:Ws×List Pt):Told (iY x).2:=by
 unfold iY;split <;> rfl
def rf{e:aL}(h:Told e):aJ (kW e)=e:=by
 cases e with
 |nil=>rfl
 |no m=>
  have h':0<m:=by have:=h;simpa[Told,ym,kW]using this
  have h2:¬m=0:=by omega
  show aJ m=_;unfold aJ;rw[if_neg h2]
 |other=>unfold Told at h;simp[ym]at h
def HI{e:aL}(h:Told e)(hn:e.isNil=false):0<kW e:=by
 cases e with
 |nil=>cases hn
 |no m=>
  have h':0<m:=by have:=h;simpa[Told,ym,kW]using this
  exact h'
 |other=>unfold Told at h;simp[ym]at h
abbrev Rk:=List aD×List (D aB)×List Int×List Pt×Int
def aY(rd:Rd)(root:aD):Rk:=
 if ¬(aT rd root).2.2=0 then([],[],[],[],(aT rd root).2.2)
 else if(cN (bZ (aT rd root).2.1,[])).2.isNil=false then([],[],[],[],kW (cN (bZ (aT rd root).2.1,[])).2)
 else if(iI ((aT rd root).2.1,(cN (bZ (aT rd root).2.1,[])).1)).2.isNil=false then([],[],[],[],kW (iI ((aT rd root).2.1,(cN (bZ (aT rd root).2.1,[])).1)).2)
 else((aT rd root).1,(aT rd root).2.1,(cN (bZ (aT rd root).2.1,[])).1,(iI ((aT rd root).2.1,(cN (bZ (aT rd root).2.1,[])).1)).1,0)
def xu{rd:Rd}{root:aD}(h:¬(aT rd root).2.2=0):aY rd root=([],[],[],[],(aT rd root).2.2):=by unfold aY;rw[if_pos h]
def xv{rd:Rd}{root:aD}(h:(aT rd root).2.2=0)(h1:(cN (bZ (aT rd root).2.1,[])).2.isNil=false):aY rd root=([],[],[],[],kW (cN (bZ (aT rd root).2.1,[])).2):=by
 unfold aY;rw[if_neg (not_not_intro h),if_pos h1]
def Ci{rd:Rd}{root:aD}(h:(aT rd root).2.2=0)(h1:(cN (bZ (aT rd root).2.1,[])).2.isNil=true)(h2:(iI ((aT rd root).2.1,(cN (bZ (aT rd root).2.1,[])).1)).2.isNil=false) :
  aY rd root=([],[],[],[],kW (iI ((aT rd root).2.1,(cN (bZ (aT rd root).2.1,[])).1)).2):=by
 unfold aY;rw[if_neg (not_not_intro h),if_neg (by rw[h1];decide),if_pos h2]
def zI{rd:Rd}{root:aD}(h:(aT rd root).2.2=0)(h1:(cN (bZ (aT rd root).2.1,[])).2.isNil=true)(h2:(iI ((aT rd root).2.1,(cN (bZ (aT rd root).2.1,[])).1)).2.isNil=true) :
  aY rd root=((aT rd root).1,(aT rd root).2.1,(cN (bZ (aT rd root).2.1,[])).1,(iI ((aT rd root).2.1,(cN (bZ (aT rd root).2.1,[])).1)).1,0):=by
 unfold aY;rw[if_neg (not_not_intro h),if_neg (by rw[h1];decide),if_neg (by rw[h2];decide)]
structure ke (rd:Rd) (root:aD) (ns:List aD) (os:List (D aB)) (bs:List Int) (ps:List Pt):Prop where
 e:aT rd root=(ns,os,0)
 sc:Scope rd root ns os
 eb:cN (bZ os,[])=(bs,.nil)
 ea:iI (os,bs)=(ps,.nil)
 bl:bs.length=os.length
 bi:pF bs
 pt:ps=qV os bs os 0
 one:∀k,k<os.length->∀t∈(nth aB os k).2.2.2.1,(gR os bs (k:Int) t).2.isNil=true
 W5:∀i,i<ps.length->tT (dB os) (nth aR ps i)
def EK{e:aL}(h:e.isNil=true):e=.nil:=by cases e <;> first|rfl|cases h
def Scope.obj{rd:Rd}{root:aD}{ns:List aD}{os:List (D aB)}(ok:iy rd)(h:Scope rd root ns os){i:Nat}(hi:i<os.length):kX (nth aB os i):=by
 have:=h.xq i (by rw[<-h.len];exact hi);rw[this.2];exact AR ok this.1
def kX.SD{o:D aB}(h:kX o):Ue o:=by
 refine⟨by have:=h.t6;omega,fun i hi =>?_,fun i hi =>?_⟩
 ·have:=(h.sym hi).2;unfold il at this;unfold Small;omega
 ·have:=h.tie hi
  have a:=this.a;have w:=this.w;unfold il at a w;unfold Small Word;omega
def Scope.SD{rd:Rd}{root:aD}{ns:List aD}{os:List (D aB)}(ok:iy rd)(h:Scope rd root ns os):jN os:=⟨by have:=h.le;have:=h.len;omega,fun _ hi=>(h.obj ok hi).SD⟩
def PE{a n:Int}(h:a<=n-1):a<n:=by omega
def J1{o:D aB}(h:cZ o=0):ig o.2.1.length [] o.2.2.1=0/\kM o.2.1.length none o.2.2.2.1=0:=by
 unfold cZ at h;split at h
 ·cases h
 ·split at h
  ·rename_i h1;exact absurd h h1
  ·split at h
   ·rename_i h2;exact absurd h h2
   ·split at h
    ·rename_i h3;exact absurd h h3
    ·rename_i h3;exact⟨aq h3,h⟩
def MV{o:D aB}(h:cZ o=0){t:D bD}(ht:t∈o.2.2.2.1):0<=t.1/\t.1<(o.2.1.length:Int):=by
 obtain⟨p,hp⟩:=u6 _ _ _ (J1 h).2 t ht;obtain⟨⟨a,b⟩,_⟩:=EC hp;exact⟨a,PE b⟩
def Scope.fault{rd:Rd}{root:aD}{ns:List aD}{os:List (D aB)}(ok:iy rd)(h:Scope rd root ns os){i:Nat}(hi:i<os.length):cZ (nth aB os i)=0:=by
 have:=h.xq i (by rw[<-h.len];exact hi);rw[this.2];exact u9 (kd ok this.1).2
def r7{rd:Rd}(ok:iy rd)(root:aD):(∃f,0<f/\aY rd root=([],[],[],[],f))\/(∃ns os bs ps,aY rd root=(ns,os,bs,ps,0)/\ke rd root ns os bs ps):=by
 rcases zF ok root with⟨f,hf,e⟩|⟨ns,os,e,sc⟩
 ·exact .inl ⟨f,hf,by rw[xu (by rw[e];simp only;omega),e]⟩
 ·have e0:(aT rd root).2.2=0:=by rw[e]
  have e1:(aT rd root).2.1=os:=by rw[e]
  have e2:(aT rd root).1=ns:=by rw[e]
  cases hb:(cN (bZ os,[])).2.isNil with
  |false=>exact .inl ⟨_,HI (Ch _) hb,by rw[xv e0 (by rw[e1];exact hb),e1]⟩
  |true=>
   cases ha:(iI (os,(cN (bZ os,[])).1)).2.isNil with
   |false=>exact .inl ⟨_,HI (Hh _) ha,by rw[Ci e0 (by rw[e1];exact hb) (by rw[e1];exact ha),e1]⟩
   |true=>
    obtain⟨a1,a2,a3,a4⟩:=SB ha;refine .inr ⟨ns,os,_,_,by rw[zI e0 (by rw[e1];exact hb) (by rw[e1];exact ha),e1,e2],e,sc,Prod.ext rfl (EK hb),Prod.ext rfl (EK ha),a1,a2,a3,a4,fun i hi =>?_⟩;obtain⟨k,t,hk,ht,hp⟩:=AT (by rw[<-a3];exact dJ (t:=aR) hi);rw[hp];have:=MV (sc.fault ok hk) ht;refine⟨by simp only;omega,by simp only;rw[nK];omega,this.1,?_⟩;simp only[dh];rw[show((k:Int)).toNat=k from rfl,vf hk];exact this.2
def jd(ns:List aD)(bs:List Int)(w:Ws)(n:Nat):List (D iH):=(ba n).map fun i=>(nth .str ns i,nth (.int .i64) bs i,nth jj w i,())
def MW(ns:List aD)(bs:List Int)(w:Ws)(n:Nat):(jd ns bs w n).length=n:=by simp[jd]
def zJ(ns:List aD)(bs:List Int)(w:Ws)(n:Nat):jd ns bs w (n+1)=jd ns bs w n++[(nth .str ns n,nth (.int .i64) bs n,nth jj w n,())]:=by simp[jd,cq]
def jL(ns:List aD)(bs:List Int)(os:List (D aB))(ps:List Pt):List (D iH)×aL:=
 if ¬ns.length=os.length\/¬bs.length=os.length then([],.no 3)
 else if(iY (dB os,ps)).2.isNil=false then([],(iY (dB os,ps)).2)
 else(jd ns bs (iY (dB os,ps)).1 os.length,.nil)
def Cj{ns:List aD}{bs:List Int}{os:List (D aB)}{ps:List Pt}(h:¬ns.length=os.length\/¬bs.length=os.length):jL ns bs os ps=([],.no 3):=by unfold jL;rw[if_pos h]
def SE{ns:List aD}{bs:List Int}{os:List (D aB)}{ps:List Pt}(h:ns.length=os.length)(h':bs.length=os.length)(hp:(iY (dB os,ps)).2.isNil=false):jL ns bs os ps=([],(iY (dB os,ps)).2):=by
 unfold jL;rw[if_neg (by rintro(e|e);exact e h;exact e h'),if_pos hp]
def Dq{ns:List aD}{bs:List Int}{os:List (D aB)}{ps:List Pt}(h:ns.length=os.length)(h':bs.length=os.length)(hp:(iY (dB os,ps)).2.isNil=true):jL ns bs os ps=(jd ns bs (iY (dB os,ps)).1 os.length,.nil):=by
 unfold jL;rw[if_neg (by rintro(e|e);exact e h;exact e h'),if_neg (by rw[hp];decide)]
def HJ(ns:List aD)(bs:List Int)(os:List (D aB))(ps:List Pt):Told (jL ns bs os ps).2:=by
 unfold jL;split
 ·rfl
 ·split
  ·exact SC _
  ·rfl
def gS(rd:Rd)(root:aD):List (D iH)×Int:=
 if ¬(aY rd root).2.2.2.2=0 then([],(aY rd root).2.2.2.2)
 else((jL (aY rd root).1 (aY rd root).2.2.1 (aY rd root).2.1 (aY rd root).2.2.2.1).1,kW (jL (aY rd root).1 (aY rd root).2.2.1 (aY rd root).2.1 (aY rd root).2.2.2.1).2)
def ke.put{rd:Rd}{root:aD}{ns:List aD}{os:List (D aB)}{bs:List Int}{ps:List Pt}(h:ke rd root ns os bs ps):iY (dB os,ps)=(lu (dB os) ps,.nil):=yp h.W5
def ke.lay{rd:Rd}{root:aD}{ns:List aD}{os:List (D aB)}{bs:List Int}{ps:List Pt}(h:ke rd root ns os bs ps):jL ns bs os ps=(jd ns bs (lu (dB os) ps) os.length,.nil):=by
 rw[Dq h.sc.len.symm h.bl (by rw[h.put];rfl),h.put]
def SF{rd:Rd}{root:aD}(h:¬(aY rd root).2.2.2.2=0):gS rd root=([],(aY rd root).2.2.2.2):=by unfold gS;rw[if_pos h]
def UX{rd:Rd}{root:aD}{ns:List aD}{os:List (D aB)}{bs:List Int}{ps:List Pt}(e:aY rd root=(ns,os,bs,ps,0))(h:ke rd root ns os bs ps):gS rd root=(jd ns bs (lu (dB os) ps) os.length,0):=by
 unfold gS;rw[e,if_neg (by simp),h.lay];rfl
def ke.sum{rd:Rd}{root:aD}{ns:List aD}{os:List (D aB)}{bs:List Int}{ps:List Pt}(h:ke rd root ns os bs ps) :
  (∀j,j<os.length->1<=(nth aB os j).2.1.length/\(nth aB os j).2.1.length<=40)/\jb (bZ os) os.length<=256/\∀i,i<os.length->(nth (.int .i64) bs i:Int)=jb (bZ os) i:=by
 have hb:(cN (bZ os,[])).2.isNil=true:=by rw[h.eb];rfl
 have hn:(cN (bZ os,[])).1=bs:=by rw[h.eb]
 obtain⟨_,h2,h3,h4⟩:=PC hb;rw[hn]at h4;have hl:=pB os;refine⟨fun j hj =>?_,by rw[hl]at h3;exact h3,fun i hi=>h4 i (by omega)⟩;have:=h2 j (by omega);rw[Cg hj]at this;exact⟨dc.1 this.1,dc.1 this.2⟩
def Xh(p:D iH)(a:Int):Prop:=(p.2.1:Int)<=a/\a<(p.2.1:Int)+(p.2.2.1.length:Int)
instance(p:D iH)(a:Int):Decidable (Xh p a):=inferInstanceAs (Decidable (_/\_))
def PF{rd:Rd}(ok:iy rd){root:aD}(h:(aT rd root).2.2=0):(aT rd root).2.1.length<=6:=by
 have:=(r6 ok h).le;have:=(r6 ok h).len;omega
def MX{rd:Rd}(ok:iy rd){root:aD}(h:(aT rd root).2.2=0):jN (aT rd root).2.1:=(r6 ok h).SD ok
def UY{l:List (D aB)}(h:l.length<=1000/\∀i,i<l.length->(nth aB l i).2.1.length<=1000) :
  (dB l).length<=100000/\∀i,i<(dB l).length->(nth jj (dB l) i).length<=100000000:=by
 refine⟨by rw[nK];omega,fun i hi =>?_⟩;rw[nK]at hi;rw[vf hi];have:=h.2 i hi;omega
def MY{rd:Rd}(ok:iy rd){root:aD}{ns:List aD}{os:List (D aB)}(h:Scope rd root ns os):os.length<=1000/\∀i,i<os.length->(nth aB os i).2.1.length<=1000:=by
 refine⟨by have:=h.le;have:=h.len;omega,fun i hi =>?_⟩;exact b5 (h.obj ok hi).Ug (by decide)
def HK{rd:Rd}(ok:iy rd){root:aD}(h:(aY rd root).2.2.2.2=0) :
  (aY rd root).2.1.length<=1000/\∀i,i<(aY rd root).2.1.length->(nth aB (aY rd root).2.1 i).2.1.length<=1000:=by
 rcases r7 ok root with⟨f,hf,e⟩|⟨ns,os,bs,ps,e,hr⟩
 ·rw[e]at h;simp at h;omega
 ·rw[e];exact MY ok hr.sc
def SG{rd:Rd}{root:aD}(h:(aY rd root).2.2.2.2=0) :
  ((jL (aY rd root).1 (aY rd root).2.2.1 (aY rd root).2.1 (aY rd root).2.2.2.1).1,(jL (aY rd root).1 (aY rd root).2.2.1 (aY rd root).2.1 (aY rd root).2.2.2.1).2,())=
   ((gS rd root).1,aJ (gS rd root).2,()):=by
 unfold gS;rw[if_neg (not_not_intro h)];simp only[rf (HJ _ _ _ _)]
def dU{f:Int}(h:(aJ f).isNil=false):¬f=0:=fun e=>by rw[aK.2 e]at h;cases h
def SH(x:List (D aB)×List Int):aJ (kW (iI x).2)=(iI x).2:=rf (Hh x)
def HM{α:Type}{l:List α}{i:Nat}(h:¬i<l.length):l.take i=l:=cg (by omega)
abbrev Uh:=Unit×List (List UInt8)×List Int×List (D aS)×List (D bD)×(Bool×Unit)×Unit
def SI(x:Uh):D aB:=(x.2.1,x.2.2.1,x.2.2.2.1,x.2.2.2.2.1,())
def PG(p:D aB×Bool):Uh:=((),p.1.1,p.1.2.1,p.1.2.2.1,p.1.2.2.2.1,(p.2,()),())
def HN(s p:aD):(ax s p).length<=s.length:=by unfold ax;split <;> simp
def Ld{s:aD}{w:List aD}(hw:w=parts 32 (ax s dW))(i:Nat):(nth .str w i).length<=s.length:=by
 by_cases h:i<w.length
 ·have h1:=dJ (t:=.str) h
  rw[hw]at h1;have:=oJ _ _ _ h1;rw[<-hw]at this;exact b5 this (HN _ _)
 ·unfold nth;rw[List.getD_eq_getElem?_getD,List.getElem?_eq_none (by omega)];exact ar _
def SJ{s:aD}{w:List aD}(hw:w=parts 32 (ax s dW)):0<w.length:=by rw[hw];exact List.length_pos_iff.2 (AJ _ _)
def l6{c:Bool}{P:Prop}(q:c=true↔P)(h:c=false):¬P:=fun p=>by rw[q.2 p]at h;cases h
section
variable{o:D aB}{b:Bool}{s:aD}{w:List aD}(hw:w=parts 32 (ax s dW))
include hw
def MZ(h:nth .str w 0=kq/\w.length=2):gG o b s=(pW o (nth .str w 1),b):=by
 unfold gG;simp only;rw[<-hw,if_pos h]
def M0(h0:¬(nth .str w 0=kq/\w.length=2))(h:nth .str w 0=jS/\w.length=2):gG o b s=(pX o (dZ (nth .str w 1)).1,b || (cT (nth .str w 1)).isNone):=by
 unfold gG;simp only;rw[<-hw,if_neg h0,if_pos h]
def PH(h0:¬(nth .str w 0=kq/\w.length=2))(h1:¬(nth .str w 0=jS/\w.length=2))(h:nth .str w 0=jk/\w.length=3) :
  gG o b s=(tY o (nth .str w 1,(dZ (nth .str w 2)).1,av s dW,()),b || (cT (nth .str w 2)).isNone):=by
 unfold gG;simp only;rw[<-hw,if_neg h0,if_neg h1,if_pos h]
def M1(h0:¬(nth .str w 0=kq/\w.length=2))(h1:¬(nth .str w 0=jS/\w.length=2))(h2:¬(nth .str w 0=jk/\w.length=3))(h:nth .str w 0=mM/\w.length=3) :
  gG o b s=(px o ((dZ (nth .str w 1)).1,1,(dZ (nth .str w 2)).1,[],false,()),(b || (cT (nth .str w 1)).isNone) || (cT (nth .str w 2)).isNone):=by
 unfold gG;simp only;rw[<-hw,if_neg h0,if_neg h1,if_neg h2,if_pos h]
def EL(h0:¬(nth .str w 0=kq/\w.length=2))(h1:¬(nth .str w 0=jS/\w.length=2))(h2:¬(nth .str w 0=jk/\w.length=3))(h3:¬(nth .str w 0=mM/\w.length=3))
  (h:(nth .str w 0=lC\/nth .str w 0=lg)/\w.length=4){k:Int}(hk:k=if nth .str w 0=lg then 3 else 2) :
  gG o b s=(px o ((dZ (nth .str w 1)).1,k,(dZ (nth .str w 2)).1,nth .str w 3,av s dW,()),(b || (cT (nth .str w 1)).isNone) || (cT (nth .str w 2)).isNone):=by
 unfold gG;simp only;rw[<-hw,if_neg h0,if_neg h1,if_neg h2,if_neg h3,if_pos h,hk]
def M3(h0:¬(nth .str w 0=kq/\w.length=2))(h1:¬(nth .str w 0=jS/\w.length=2))(h2:¬(nth .str w 0=jk/\w.length=3))(h3:¬(nth .str w 0=mM/\w.length=3))
  (h:¬((nth .str w 0=lC\/nth .str w 0=lg)/\w.length=4)):gG o b s=(o,true):=by
 unfold gG;simp only;rw[<-hw,if_neg h0,if_neg h1,if_neg h2,if_neg h3,if_neg h]
end
def oe(s:aD):D aB×aL:=((cV s).1,aJ (cV s).2)
def M4{s:aD}(h:s.length > 1200):(bV aB,aL.no 2)=oe s:=by unfold oe;rw[EI h];rfl
def lD.run{L:List aD}{i:Nat}{o:D aB}{b:Bool}(h:lD L i o b)(hi:¬i<L.length):(run py (bV aB) L=some o/\b=false)\/(run py (bV aB) L=none/\b=true):=by
 have:=h.st
 rwa [cg (by omega)]at this
def xw{s:aD}{i:Nat}{o:D aB}{b:Bool}(h:lD (parts 10 (ae s [10])) i o b)(hi:¬i<(parts 10 (ae s [10])).length)(hl:¬s.length > 1200)
  (hb:b=true\/(ko o).2.isNil=false\/¬(ko o).1=s):(bV aB,aL.no 4)=oe s:=by
 have:cV s=(bV aB,4):=by
  rcases h.run hi with⟨hr,h0⟩|⟨hr,h0⟩
  ·rcases hb with hb|hb|hb
   ·rw[hb]at h0;cases h0
   ·refine Cc hl hr fun hf ht =>?_
    rw[u7 hf rfl (by show(iM o).length<=1200;rw[ht];omega)]at hb;cases hb
   ·refine Cc hl hr fun hf ht=>hb ?_
    rw[u7 hf rfl (by show(iM o).length<=1200;rw[ht];omega)];exact ht
  ·exact MR hl hr
 unfold oe;rw[this];rfl
def SK{s:aD}{o:D aB}(hl:¬s.length > 1200)
  (hn:(ko o).2.isNil=true)(ht:(ko o).1=s):(o,aL.nil)=oe s:=by
 have hf:cZ o=0:=by
  apply aq;intro hf;rw[EF hf]at hn;exact hf (aK.1 hn)
 have hs:iM o=s:=by
  by_cases h:(iM o).length > 1200
  ·rw[Ca hf rfl h]at hn;cases hn
  ·rw[u7 hf rfl (by show(iM o).length<=1200;omega)]at ht;exact ht
 unfold oe;rw[Dn hl hf hs];rfl
def yw(s p:aD):(ae s p).length<=s.length:=by unfold ae;split <;> simp
def PI(s:aD)(h:s.length<=1200):(parts 10 (ae s [10])).length<=1201:=by
 have h1:=sK 10 (ae s [10]);have h2:(ae s [10]).length<=s.length:=by unfold ae;split <;> simp
 omega
def M5{s:aD}(h:s.length<=1200)(i:Nat):(nth .str (parts 10 (ae s [10])) i).length<=1200:=by
 by_cases hi:i<(parts 10 (ae s [10])).length
 ·have:=oJ _ _ _ (dJ (t:=.str) hi)
  have h2:(ae s [10]).length<=s.length:=by unfold ae;split <;> simp
  omega
 ·unfold nth;rw[List.getD_eq_getElem?_getD,List.getElem?_eq_none (by omega)];exact ar _
section
variable{o:D aB}{b:Bool}{w:List aD}{k:Nat}
end
def eT{k n:Nat}(h:(k:Int)<(n:Int)):(decide ((k:Int)<3))=true↔((k:Int)<(n:Int)/\(k:Int)<3):=by
 rw[decide_eq_true_eq];omega
def bW(rd:Rd)(ns:List aD)(bs:List Int)(n:Nat):List (D aH):=(ba n).map fun i=>(nth .str ns i,(rd (nth .str ns i)).2.1,nth (.int .i64) bs i,())
def dP(rd:Rd)(ns:List aD)(bs:List Int)(n:Nat):(bW rd ns bs n).length=n:=by simp[bW]
def xx(rd:Rd)(ns:List aD)(bs:List Int)(n:Nat):bW rd ns bs (n+1)=bW rd ns bs n++[(nth .str ns n,(rd (nth .str ns n)).2.1,nth (.int .i64) bs n,())]:=by simp[bW,cq]
def ic{rd:Rd}{ns:List aD}{bs:List Int}{n i:Nat}(h:i<n):nth aH (bW rd ns bs n) i=(nth .str ns i,(rd (nth .str ns i)).2.1,nth (.int .i64) bs i,()):=by
 apply iA;simp[bW,h]
def cK(rd:Rd)(root:aD):D aC×Int:=
 if ¬(aY rd root).2.2.2.2=0 then(bV aC,(aY rd root).2.2.2.2)
 else((root,bW rd (aY rd root).1 (aY rd root).2.2.1 (aY rd root).1.length,(aY rd root).2.2.2.1,()),0)
def HO{rd:Rd}{root:aD}(h:¬(aY rd root).2.2.2.2=0):cK rd root=(bV aC,(aY rd root).2.2.2.2):=by unfold cK;rw[if_pos h]
def yx{rd:Rd}{root:aD}(h:(aY rd root).2.2.2.2=0):cK rd root=((root,bW rd (aY rd root).1 (aY rd root).2.2.1 (aY rd root).1.length,(aY rd root).2.2.2.1,()),0):=by
 unfold cK;rw[if_neg (not_not_intro h)]
def M6{rd:Rd}(ok:iy rd)(root:aD):(∃f,0<f/\aY rd root=([],[],[],[],f)/\cK rd root=(bV aC,f))\/
  (∃ns os bs ps,aY rd root=(ns,os,bs,ps,0)/\ke rd root ns os bs ps/\cK rd root=((root,bW rd ns bs ns.length,ps,()),0)):=by
 rcases r7 ok root with⟨f,hf,e⟩|⟨ns,os,bs,ps,e,h⟩
 ·exact .inl ⟨f,hf,e,by rw[HO (by rw[e];simp only;omega),e]⟩
 ·exact .inr ⟨ns,os,bs,ps,e,h,by rw[yx (by rw[e]),e]⟩
def je(rd:Rd)(p:D aH):Bool:=decide ((rd p.1).2.2=0)&&decide ((rd p.1).2.1=p.2.1)
def eZ(rd:Rd)(e:D aC):Bool:=e.2.1.all (je rd)&&decide (0<e.2.1.length)
def HP{rd:Rd}{e:D aC}{i:Nat}(h:i<e.2.1.length)(hf:je rd (nth aH e.2.1 i)=false):eZ rd e=false:=by
 unfold eZ;have:e.2.1.all (je rd)=false:=c6.2 ⟨_,dJ (t:=aH) h,by rw[hf];decide⟩;rw[this];rfl
def EM{rd:Rd}{e:D aC}(h:∀i,i<e.2.1.length->je rd (nth aH e.2.1 i)=true):eZ rd e=decide (0<e.2.1.length):=by
 unfold eZ;have:e.2.1.all (je rd)=true:=ca.2 fun x hx=>by
  obtain⟨i,hi,rfl⟩:=fZ (t:=aH) hx;exact h i hi
 rw[this];rfl
def EN{rd:Rd}{e:D aC}(h:eZ rd e=true):0<e.2.1.length/\∀i,i<e.2.1.length->(rd (nth aH e.2.1 i).1).2.2=0/\(rd (nth aH e.2.1 i).1).2.1=(nth aH e.2.1 i).2.1:=by
 unfold eZ at h;rw[af,ca,decide_eq_true_eq]at h;refine⟨h.2,fun i hi =>?_⟩;have:=h.1 _ (dJ (t:=aH) hi);unfold je at this;rw[af,decide_eq_true_eq,decide_eq_true_eq]at this;exact this
def mN(rd:Rd):List (D aH)->Int
 |[]=>0
 |p :: r=>if(cV (rd p.1).1).2=0 then mN rd r else(cV (rd p.1).1).2
def fQ(rd:Rd)(l:List (D aH)):List (D aB):=l.map fun p=>(cV (rd p.1).1).1
def fV(l:List (D aH)):List aD:=l.map fun p=>p.1
def fW(l:List (D aH)):List Int:=l.map fun p=>p.2.2.1
def HQ{rd:Rd}:∀{l:List (D aH)} {i:Nat},(∀j,j<i->(cV (rd (nth aH l j).1).1).2=0)->i<l.length->¬(cV (rd (nth aH l i).1).1).2=0->mN rd l=(cV (rd (nth aH l i).1).1).2
 |[],i,_,h,_=>by simp at h
 |p :: r,0,_,_,h=>by unfold mN;rw[if_neg (show ¬(cV (rd p.1).1).2=0 from h)];rfl
 |p :: r,i+1,h,h1,h2=>by
  unfold mN;rw[if_pos (show(cV (rd p.1).1).2=0 from h 0 (by omega))];exact HQ (l:=r) (i:=i) (fun j hj=>h (j+1) (by omega)) (by simpa using h1) h2
def vg{rd:Rd}:∀{l:List (D aH)},(∀j,j<l.length->(cV (rd (nth aH l j).1).1).2=0)->mN rd l=0
 |[],_=>rfl
 |p :: r,h=>by
  unfold mN;rw[if_pos (show(cV (rd p.1).1).2=0 from h 0 (by simp))];exact vg (l:=r) fun j hj=>h (j+1) (by simpa using hj)
def HR(rd:Rd):∀l:List (D aH),0<=mN rd l
 |[]=>az _
 |p :: r=>by
  unfold mN;split
  ·exact HR rd r
  ·exact zE _
def jM(rd:Rd)(e:D aC):List (D iH)×Int:=
 if eZ rd e=false then([],10)
 else if ¬mN rd e.2.1=0 then([],mN rd e.2.1)
 else((jL (fV e.2.1) (fW e.2.1) (fQ rd e.2.1) e.2.2.1).1,kW (jL (fV e.2.1) (fW e.2.1) (fQ rd e.2.1) e.2.2.1).2)
def PJ{rd:Rd}{e:D aC}(h:eZ rd e=false):jM rd e=([],10):=by unfold jM;rw[if_pos h]
def UZ{rd:Rd}{e:D aC}(h:eZ rd e=true){f:Int}(hb:mN rd e.2.1=f)(h0:¬f=0):jM rd e=([],f):=by
 unfold jM;rw[if_neg (by rw[h];decide),if_pos (by rw[hb];exact h0),hb]
def PK{rd:Rd}{e:D aC}(h:eZ rd e=true)(hb:mN rd e.2.1=0) :
  jM rd e=((jL (fV e.2.1) (fW e.2.1) (fQ rd e.2.1) e.2.2.1).1,kW (jL (fV e.2.1) (fW e.2.1) (fQ rd e.2.1) e.2.2.1).2):=by
 unfold jM;rw[if_neg (by rw[h];decide),if_neg (not_not_intro hb)]
def kf{t:Ty}{a b:List (D t)}(hl:a.length=b.length)(h:∀i,i<a.length->nth t a i=nth t b i):a=b:=JM (t:=t) hl h
def HS{rd:Rd}{ns:List aD}{bs:List Int}:fV (bW rd ns bs ns.length)=ns:=by
 refine kf (t:=.str) (by simp[fV,bW]) fun i hi =>?_
 have hi':i<ns.length:=by simpa[fV,bW]using hi
 unfold fV;rw[ru (u:=aH) (t:=.str) (by rw[dP];exact hi'),ic hi']
def HT{rd:Rd}{ns:List aD}{bs:List Int}(h:bs.length=ns.length):fW (bW rd ns bs ns.length)=bs:=by
 refine kf (t:=.int .i64) (by simp[fW,bW,h]) fun i hi =>?_
 have hi':i<ns.length:=by simpa[fW,bW]using hi
 unfold fW;rw[ru (u:=aH) (t:=.int .i64) (by rw[dP];exact hi'),ic hi']
def ke.fresh{rd:Rd}(ok:iy rd){root:aD}{ns:List aD}{os:List (D aB)}{bs:List Int}{ps:List Pt}(h:ke rd root ns os bs ps):eZ rd (root,bW rd ns bs ns.length,ps,())=true:=by
 rw[EM]
 ·exact decide_eq_true (by show 0<(bW rd ns bs ns.length).length;rw[dP];exact h.sc.pos)
 ·intro i hi
  have hi:i<ns.length:=by have:i<(bW rd ns bs ns.length).length:=hi;rwa [dP]at this
  show je rd (nth aH (bW rd ns bs ns.length) i)=true;rw[ic hi];unfold je;rw[decide_eq_true (kd ok (h.sc.xq i hi).1).1,decide_eq_true rfl];rfl
def ke.aF{rd:Rd}{root:aD}{ns:List aD}{os:List (D aB)}{bs:List Int}{ps:List Pt}(h:ke rd root ns os bs ps){rd':Rd}(hs:∀s∈ns,(rd' s).1=(rd s).1):fQ rd' (bW rd ns bs ns.length)=os:=by
 refine kf (t:=aB) (by simp[fQ,bW,h.sc.len]) fun i hi =>?_
 have hi':i<ns.length:=by simpa[fQ,bW]using hi
 unfold fQ;rw[ru (u:=aH) (t:=aB) (by rw[dP];exact hi'),ic hi',(h.sc.xq i hi').2];unfold jt;rw[hs _ (dJ (t:=.str) hi')]
def ke.bad{rd:Rd}(ok:iy rd){root:aD}{ns:List aD}{os:List (D aB)}{bs:List Int}{ps:List Pt}(h:ke rd root ns os bs ps){rd':Rd}(hs:∀s∈ns,(rd' s).1=(rd s).1):mN rd' (bW rd ns bs ns.length)=0:=by
 refine vg fun j hj =>?_
 rw[dP]at hj;rw[ic hj];simp only;rw[hs _ (dJ (t:=.str) hj)];exact(kd ok (h.sc.xq j hj).1).2
def ke.use{rd:Rd}(ok:iy rd){root:aD}{ns:List aD}{os:List (D aB)}{bs:List Int}{ps:List Pt}(h:ke rd root ns os bs ps){rd':Rd}(hs:∀s∈ns,(rd' s).1=(rd s).1)
  (hf:eZ rd' (root,bW rd ns bs ns.length,ps,())=true):jM rd' (root,bW rd ns bs ns.length,ps,())=(jd ns bs (lu (dB os) ps) os.length,0):=by
 rw[PK hf (h.bad ok hs)];simp only;rw[HS,HT (by rw[h.bl,h.sc.len]),h.aF hs,h.lay];rfl
def eE(p:D aH):Int:=if aP p.1 > 0 then aP p.1 else if p.2.1<1\/p.2.1 > 1000000\/p.2.2.1<0\/p.2.2.1 > 255\/p.2.2.1 % 16 > 0 then 1 else 0
def mC:List (D aH)->Int
 |[]=>0
 |p :: r=>if eE p=0 then mC r else eE p
def eO(n:Nat)(p:Pt):Int:=if p.1<0\/p.1>=(n:Int)\/p.2.1<0\/p.2.1 > 39\/ie p.2.2.1=false then 1 else 0
def l7(n:Nat):List Pt->Int
 |[]=>0
 |p :: r=>if eO n p=0 then l7 n r else eO n p
def rh(e:D aC):Prop:=e.2.1.length<1\/e.2.1.length > 6\/e.2.2.1.length > 36
instance(e:D aC):Decidable (rh e):=by unfold rh;infer_instance
def bB(e:D aC):Int:=
 if aP e.1 > 0 then aP e.1 else if rh e then 2 else if ¬mC e.2.1=0 then mC e.2.1 else l7 e.2.1.length e.2.2.1
def F0(p:D aH):0<=eE p:=by
 unfold eE;split
 ·omega
 ·split <;> decide
def F1(n:Nat)(p:Pt):0<=eO n p:=by unfold eO;split <;> decide
def ua:∀l:List (D aH),0<=mC l
 |[]=>az _
 |p :: r=>by
  unfold mC;split
  ·exact ua r
  ·exact F0 p
def sO(n:Nat):∀l:List Pt,0<=l7 n l
 |[]=>az _
 |p :: r=>by
  unfold l7;split
  ·exact sO n r
  ·exact F1 n p
def vN(e:D aC):0<=bB e:=by
 unfold bB;split
 ·omega
 ·split
  ·decide
  ·split
   ·exact ua _
   ·exact sO _ _
def Ck:∀{l:List (D aH)} {i:Nat},(∀j,j<i->eE (nth aH l j)=0)->i<l.length->¬eE (nth aH l i)=0->mC l=eE (nth aH l i)
 |[],i,_,h,_=>by simp at h
 |p :: r,0,_,_,h=>by unfold mC;rw[if_neg (show ¬eE p=0 from h)];rfl
 |p :: r,i+1,h,h1,h2=>by
  unfold mC;rw[if_pos (show eE p=0 from h 0 (by omega))];exact Ck (l:=r) (i:=i) (fun j hj=>h (j+1) (by omega)) (by simpa using h1) h2
def r8:∀{l:List (D aH)},(∀j,j<l.length->eE (nth aH l j)=0)->mC l=0
 |[],_=>rfl
 |p :: r,h=>by
  unfold mC;rw[if_pos (show eE p=0 from h 0 (by simp))];exact r8 (l:=r) fun j hj=>h (j+1) (by simpa using hj)
def zK{n:Nat}:∀{l:List Pt} {i:Nat},(∀j,j<i->eO n (nth aR l j)=0)->i<l.length->¬eO n (nth aR l i)=0->l7 n l=eO n (nth aR l i)
 |[],i,_,h,_=>by simp at h
 |p :: r,0,_,_,h=>by unfold l7;rw[if_neg (show ¬eO n p=0 from h)];rfl
 |p :: r,i+1,h,h1,h2=>by
  unfold l7;rw[if_pos (show eO n p=0 from h 0 (by omega))];exact zK (l:=r) (i:=i) (fun j hj=>h (j+1) (by omega)) (by simpa using h1) h2
def vO{n:Nat}:∀{l:List Pt},(∀j,j<l.length->eO n (nth aR l j)=0)->l7 n l=0
 |[],_=>rfl
 |p :: r,h=>by
  unfold l7;rw[if_pos (show eO n p=0 from h 0 (by simp))];exact vO (l:=r) fun j hj=>h (j+1) (by simpa using hj)
def zL{e:D aC}(h:aP e.1 > 0):bB e=aP e.1:=by unfold bB;rw[if_pos h]
def qn{e:D aC}(h:aP e.1<=0)(h1:rh e):bB e=2:=by unfold bB;rw[if_neg (by omega),if_pos h1]
def jB{e:D aC}(h:aP e.1<=0)(h1:¬rh e){i:Nat}(hs:∀j,j<i->eE (nth aH e.2.1 j)=0)(hi:i<e.2.1.length){f:Int}(hf:eE (nth aH e.2.1 i)=f)(h0:f≠0):bB e=f:=by
 have:=Ck hs hi (by rw[hf];exact h0);unfold bB;rw[if_neg (by omega),if_neg h1,if_pos (by rw[this,hf];exact h0),this,hf]
def jC{e:D aC}(h:aP e.1<=0)(h1:¬rh e)(h2:∀j,j<e.2.1.length->eE (nth aH e.2.1 j)=0){i:Nat}(hs:∀j,j<i->eO e.2.1.length (nth aR e.2.2.1 j)=0)(hi:i<e.2.2.1.length)
  (hf:eO e.2.1.length (nth aR e.2.2.1 i)=1):bB e=1:=by
 unfold bB;rw[if_neg (by omega),if_neg h1,if_neg (not_not_intro (r8 h2)),zK hs hi (by rw[hf];decide),hf]
def EO{e:D aC}(h:aP e.1<=0)(h1:¬rh e)(h2:∀j,j<e.2.1.length->eE (nth aH e.2.1 j)=0)(h3:∀j,j<e.2.2.1.length->eO e.2.1.length (nth aR e.2.2.1 j)=0):bB e=0:=by
 unfold bB;rw[if_neg (by omega),if_neg h1,if_neg (not_not_intro (r8 h2)),vO h3]
section
variable{rd:Rd}{root:aD}{i:Nat}{ns:List aD}{os:List (D aB)}
def kY.SL(ok:iy rd)(h:kY rd root i ns os)(hi:i<ns.length)(he:¬(rd (nth .str ns i)).2.2=0) :
  aT rd root=([],[],(rd (nth .str ns i)).2.2):=by
 rw[h.bad hi (by rw[xn he];exact he),xn he]
def kY.U0(h:kY rd root i ns os)(hi:i<ns.length)(he:(rd (nth .str ns i)).2.2=0)(ho:¬(cV (rd (nth .str ns i)).1).2=0) :
  aT rd root=([],[],(cV (rd (nth .str ns i)).1).2):=by
 rw[h.bad hi (by rw[tm he];exact ho),tm he]
def Dr{s:aD}(he:(rd s).2.2=0)(ho:(cV (rd s).1).2=0):eL rd s=0:=by rw[tm he];exact ho
def kY.Xb(h:kY rd root i ns os):os.length+1<=1000000000:=by have:=h.len;have:=h.le;omega
def kY.Wk(h:kY rd root i ns os)(ok:iy rd){s:aD}(hf:eL rd s=0)(k:Nat):(gB ns (ah k (jt rd s).1)).length+1<=1000000000:=by
 obtain⟨r,h1,h2,_⟩:=oM (ah k (jt rd s).1) ns;have:=(AR ok hf).n4;have:=h.hi;have:=h.le;rw[h1,aw];rw[bh]at h2;omega
def Le{l:List aD}{k:Nat}(h:k<l.length)(hn:(gB ns (l.take k)).any (fun x=>x == nth .str l k)=false):gB ns (l.take k)++[nth .str l k]=gB ns (l.take (k+1)):=by
 rw[EJ h,if_neg (by rw[hn];exact Bool.false_ne_true)]
def Lf{l:List aD}{k:Nat}(h:k<l.length)(hn:(gB ns (l.take k)).any (fun x=>x == nth .str l k)=true):gB ns (l.take k)=gB ns (l.take (k+1)):=by
 rw[EJ h,if_pos hn]
def Lg{l:List aD}{k:Nat}(h:¬k<l.length):gB ns (l.take k)=gB ns l:=by rw[cg (by omega)]
end
def PL{rd:Rd}{root:aD}{ns:List aD}{os:List (D aB)}{bs:List Int}{ps:List Pt}{w:Ws}(h:aT rd root=(ns,os,0))(hb:cN (bZ os,[])=(bs,.nil))(ha:iI (os,bs)=(ps,.nil))
  (hn:ns.length=os.length)(hl:bs.length=os.length)(hp:∀i,i<ps.length->tT (dB os) (nth aR ps i))(hw:lu (dB os) ps=w):gS rd root=(jd ns bs w os.length,0):=by
 have e:aY rd root=(ns,os,bs,ps,0):=by
  unfold aY;rw[h];simp only[hb,ha,aL.isNil];rfl
 unfold gS;rw[e,if_neg (by simp)];have hq:iY (dB os,ps)=(w,.nil):=by rw[yp hp,hw]
 simp only;rw[Dq hn hl (by rw[hq];rfl),hq];rfl
def AU:aD:=[119,111,114,100,32,53,10,98,97,115,101,32,48,32,51,10]
abbrev Wl:D aB:=([],[5],[],[(0,1,3,[],false,())],())
def WQ:cV AU=(Wl,0):=by
 have i5:ab 5=[53]:=by rw[AK (by decide) (by decide)];rfl
 have i0:ab 0=[48]:=by rw[AK (by decide) (by decide)];rfl
 have i3:ab 3=[51]:=by rw[AK (by decide) (by decide)];rfl
 refine Dn (by decide) (by decide) ?_;simp only[iM,jz,nS,nR,pw,u5,tl,iK,da,fl,fc,fk,bx,List.flatMap_nil,i5,i0,i3];decide
def PM{rd:Rd}{a t:aD}{n:Int}{o:D aB}(h:rd a=(t,n,0))(ho:cV t=(o,0))(hn:o.1=[]):aT rd a=([a],[o],0):=by
 have fa:eL rd a=0:=by unfold eL;rw[h];show(if(0:Int)=0 then(cV t).2 else 0)=0;rw[ho];rfl
 have oa:jt rd a=o:=by unfold jt;rw[h];show(cV t).1=o;rw[ho]
 have n0:nth .str [a] 0=a:=rfl;unfold aT;rw[jc,if_pos (by simp),n0,if_pos fa,oa,hn,HF,jc,if_neg (by simp)];rfl
def HU{rd rd':Rd}{root:aD}(h:aT rd' root=aT rd root):aY rd' root=aY rd root:=by unfold aY;rw[h]
def EP{s k:aD}(h:¬k=s):∀{es:List FE},cX cI (fU cI es s) k=cX cI es k/\iW cI (fU cI es s) k=iW cI es k
 |[]=>⟨rfl,rfl⟩
 |y :: es=>by
  obtain⟨h1,h2⟩:=EP h (es:=es);by_cases e:y.1=s
  ·have hk:¬y.1=k:=fun e'=>h (e'.symm.trans e)
   have hs:¬s=k:=fun e'=>h e'.symm
   have hd:fU cI (y :: es) s=es:=if_pos e;rw[hd];constructor
   ·simp[cX,hk]
   ·show iW cI es k=if y.1=k then y.2.1 else iW cI es k;rw[if_neg hk]
  ·have hd:fU cI (y :: es) s=y :: fU cI es s:=if_neg e
   rw[hd];constructor
   ·simp only[cX]at h1 ⊢;simp[h1]
   ·show(if y.1=k then y.2.1 else iW cI (fU cI es s) k)=if y.1=k then y.2.1 else iW cI es k;rw[h2]
def PN{x:cH}{s k:aD}(h:¬k=s):aG (fE x s).1 k=aG x k:=by
 cases hh:cX cI x.2.1.1 s with
 |false=>rw[mB hh]
 |true=>
  rw[lB hh];unfold aG;obtain⟨h1,h2⟩:=EP h (es:=x.2.1.1);simp only[h1,h2]
def dA.ok{x:cH}(h:dA x):iy (aG x):=jA h.pre.1
def ER{rd:Rd}(ok:iy rd){s:aD}(h:(aY rd s).2.2.2.2=0):ke rd s (aY rd s).1 (aY rd s).2.1 (aY rd s).2.2.1 (aY rd s).2.2.2.1:=by
 rcases r7 ok s with⟨f,hf,e⟩|⟨ns,os,bs,ps,e,hr⟩
 ·rw[e]at h;exact absurd (show f=0 from h) (by omega)
 ·rw[e];exact hr
def ES{rd:Rd}(ok:iy rd){s:aD}(h:(aY rd s).2.2.2.2=0){i:Nat}(hi:i<(aY rd s).1.length):(rd (nth .str (aY rd s).1 i)).2.2=0:=
 (kd ok ((ER ok h).sc.xq i hi).1).1
def ET{rd:Rd}(ok:iy rd){s:aD}(h:(aY rd s).2.2.2.2=0):(aY rd s).2.2.1.length=(aY rd s).1.length/\(aY rd s).1.length<=6:=by
 have hr:=ER ok h;exact⟨by rw[hr.bl,hr.sc.len],hr.sc.le⟩
def zM{l:List (D aH)}{i:Nat}(h:i<l.length):fV (l.take i)++[(nth aH l i).1]=fV (l.take (i+1)):=by rw[lI (t:=aH) h];simp[fV]
def zN{l:List (D aH)}{i:Nat}(h:i<l.length):fW (l.take i)++[(nth aH l i).2.2.1]=fW (l.take (i+1)):=by rw[lI (t:=aH) h];simp[fW]
def Cm{rd:Rd}{l:List (D aH)}{i:Nat}(h:i<l.length):fQ rd (l.take i)++[(cV (rd (nth aH l i).1).1).1]=fQ rd (l.take (i+1)):=by rw[lI (t:=aH) h];simp[fQ]
def PO{rd:Rd}{l:List (D aH)}(hl:l.length<=1000)(h:∀j,j<l.length->(cV (rd (nth aH l j).1).1).2=0) :
  (fQ rd l).length<=1000/\∀i,i<(fQ rd l).length->(nth aB (fQ rd l) i).2.1.length<=1000:=by
 have e:(fQ rd l).length=l.length:=by simp[fQ]
 refine⟨by omega,fun i hi =>?_⟩;have hi':i<l.length:=by omega
 rw[show nth aB (fQ rd l) i=(cV (rd (nth aH l i).1).1).1 from ru (t:=aB) (u:=aH) hi'];exact b5 (ng (u9 (h i hi'))).Ug (by decide)
def PQ{rd:Rd}{p:D aH}(h:(aJ (rd p.1).2.2).isNil=false):je rd p=false:=by
 unfold je;rw[decide_eq_false (dU h)];rfl
def M7{rd:Rd}{p:D aH}(h:¬(rd p.1).2.1=p.2.1):je rd p=false:=by
 unfold je;rw[decide_eq_false h,fm]
def M8{rd:Rd}{p:D aH}(h:(aJ (rd p.1).2.2).isNil=true)(h2:(rd p.1).2.1=p.2.1):je rd p=true:=by
 unfold je;rw[decide_eq_true (aK.1 h),decide_eq_true h2];rfl
def SM{rd:Rd}{e:D aC}(h:eZ rd e=true)(hb:mN rd e.2.1=0) :
  ((jL (fV e.2.1) (fW e.2.1) (fQ rd e.2.1) e.2.2.1).1,(jL (fV e.2.1) (fW e.2.1) (fQ rd e.2.1) e.2.2.1).2,())=((jM rd e).1,aJ (jM rd e).2,()):=by
 rw[PK h hb];simp only[rf (HJ _ _ _ _)]
structure fR (x:cH):Prop where
 st:dA x
 PR:∀y∈x.2.1.1,aP y.1=0/\y.2.1.1.length<=1200/\1<=y.2.1.2.1
def fR.new:fR qm:=⟨.new,fun y hy=>by simp[qm]at hy⟩
def HV{s:aD}{v:aD×Int×Unit}{c:Int}:∀{es:List FE} {y:FE},y∈eU cI es s v c->(y.1=s/\y.2.1=v)\/y∈es
 |[],y,h=>by simp[eU]at h;subst h;exact .inl ⟨rfl,rfl⟩
 |z :: r,y,h=>by
  unfold eU at h;split at h
  ·rcases ag.1 h with rfl|h
   ·exact .inl ⟨rfl,rfl⟩
   ·exact .inr (by simp[h])
  ·rcases ag.1 h with rfl|h
   ·exact .inr (by simp)
   ·rcases HV h with h|h
    ·exact .inl h
    ·exact .inr (by simp[h])
def HW{x:cH}{s t:aD}(h:(cL x s t).2=0):aP s=0/\t.length<=1200/\¬x.1.1=1000000:=by
 unfold cL at h;split at h
 ·rename_i h1;exact absurd h h1
 ·rename_i h1
  split at h
  ·simp at h
  ·rename_i h2
   split at h
   ·simp at h
   ·rename_i h3
    exact⟨by simpa using h1,by omega,fun e=>h3 (.inr e)⟩
def dA.pos{x:cH}(h:dA x):0<=x.1.1:=h.pre.2.1
def fR.write{x:cH}(h:fR x)(s t:aD):fR (cL x s t).1:=by
 refine⟨(h.st.write s t).1,?_⟩;rcases mm x s t with⟨e,_⟩|⟨e,e2⟩
 ·rw[e];exact h.PR
 ·rw[e]
  intro y hy;obtain⟨k1,k2,_⟩:=HW e2;rcases HV hy with⟨h1,h2⟩|hy
  ·rw[h1,h2];exact⟨k1,k2,by have:=h.st.pos;show(1:Int)<=x.1.1+1;omega⟩
  ·exact h.PR y hy
def fR.remove{x:cH}(h:fR x)(s:aD):fR (fE x s).1:=by
 refine⟨(h.st.remove s).1,?_⟩;cases c:cX cI x.2.1.1 s with
 |false=>rw[mB c];exact h.PR
 |true=>rw[lB c];exact fun y hy=>h.PR y (pV.subset hy)
def fR.ok{x:cH}(h:fR x):iy (aG x):=h.st.ok
def fR.read{x:cH}(h:fR x){s:aD}(hn:(aG x s).2.2=0):aP s=0/\(aG x s).1.length<=1200/\1<=(aG x s).2.1/\(aG x s).2.1<=x.1.1:=by
 refine⟨?_,?_,?_,ME h.st (aK.2 hn)⟩
 all_goals
  cases c:cX cI x.2.1.1 s with
  |false=>rw[lJ c]at hn;simp at hn
  |true=>
   obtain⟨r,hr⟩:=h.st.fP;obtain⟨y,hy,e⟩:=l5.1 c;have hy':=h.PR y hy
   first
    |(rw[pq c,uY hr.names y hy e];first|exact hy'.2.1|exact hy'.2.2)
    |(rw[<-e];exact hy'.1)
def qG{rd:Rd}(ok:iy rd){root:aD}(h:(aJ (cK rd root).2).isNil=true) :
  ∃ns os bs ps,aY rd root=(ns,os,bs,ps,0)/\ke rd root ns os bs ps/\cK rd root=((root,bW rd ns bs ns.length,ps,()),0):=by
 rcases M6 ok root with⟨f,hf,_,e⟩|h'
 ·rw[e]at h;exact absurd (aK.1 h) (by show ¬f=0;omega)
 ·exact h'
def PS{rd rd':Rd}{ns:List aD}{bs:List Int}(h:∀k∈ns,rd' k=rd k):bW rd' ns bs ns.length=bW rd ns bs ns.length:=by
 refine kf (t:=aH) (by rw[dP,dP]) fun i hi =>?_
 rw[dP]at hi;rw[ic hi,ic hi,h _ (dJ (t:=.str) hi)]
def M9{rd rd':Rd}{root:aD}{ns:List aD}{os:List (D aB)}{bs:List Int}{ps:List Pt}(e:aY rd root=(ns,os,bs,ps,0))(hr:ke rd root ns os bs ps)(h:∀k∈ns,rd' k=rd k):cK rd' root=cK rd root:=by
 have hs:aT rd' root=aT rd root:=JZ (by rw[hr.e]) (by rw[hr.e];exact h);have e':aY rd' root=(ns,os,bs,ps,0):=by rw[HU hs,e]
 rw[yx (by rw[e']),yx (by rw[e]),e',e];simp only;rw[PS h]
def SN{x:cH}(g:fR x){root:aD}(h:(aJ (cK (aG x) root).2).isNil=true):0<(cK (aG x) root).1.2.1.length/\(cK (aG x) root).1.2.1.length<=6:=by
 obtain⟨ns,os,bs,ps,e,hr,em⟩:=qG g.ok h;rw[em];show 0<(bW (aG x) ns bs ns.length).length/\(bW (aG x) ns bs ns.length).length<=6;rw[dP];exact⟨hr.sc.pos,hr.sc.le⟩
def Na{p:D aH}(h:aP p.1 > 0):eE p=aP p.1:=by unfold eE;rw[if_pos h]
def qH{p:D aH}(h:aP p.1<=0)(h2:p.2.1<(1:Int)\/p.2.1 > (1000000:Int)\/p.2.2.1<(0:Int)\/p.2.2.1 > (255:Int)\/p.2.2.1 % (16:Int) > 0):eE p=1:=by
 unfold eE;rw[if_neg (by omega),if_pos h2]
def HX{p:D aH}(h:aP p.1<=0)(h1:(1:Int)<=p.2.1)(h2:p.2.1<=(1000000:Int))(h3:(0:Int)<=p.2.2.1)(h4:p.2.2.1<=(255:Int))(h5:p.2.2.1 % (16:Int)=0):eE p=0:=by
 unfold eE;rw[if_neg (by omega),if_neg];rintro(e|e|e|e|e)
 ·exact absurd e (ao.2 h1)
 ·exact absurd e (ao.2 h2)
 ·exact absurd e (ao.2 h3)
 ·exact absurd e (ao.2 h4)
 ·exact absurd (show(0:Int)<0 from h5▸e) (by decide)
def HY{b x:Int}(h:0<=b)(e:x=Int.tmod b 16):x=b % 16:=by rw[e,ez h]
def oV{n:Nat}{p:Pt}(h:p.1<(0:Int)\/p.1>=(n:Int)\/p.2.1<(0:Int)\/p.2.1 > (39:Int)\/p.2.2.1<(-2147483648:Int)\/p.2.2.1 > (2147483647:Int)):eO n p=1:=by
 unfold eO;rw[if_pos];rcases h with h|h|h|h|h|h
 ·exact .inl h
 ·exact .inr (.inl h)
 ·exact .inr (.inr (.inl h))
 ·exact .inr (.inr (.inr (.inl h)))
 ·refine .inr (.inr (.inr (.inr ?_)));unfold ie;rw[decide_eq_false (cp.2 h)];rfl
 ·refine .inr (.inr (.inr (.inr ?_)));unfold ie;rw[decide_eq_false (cp.2 h),fm]
def Cn{n:Nat}{p:Pt}(h1:(0:Int)<=p.1)(h2:p.1<(n:Int))(h3:(0:Int)<=p.2.1)(h4:p.2.1<=(39:Int))(h5:(-2147483648:Int)<=p.2.2.1)(h6:p.2.2.1<=(2147483647:Int)):eO n p=0:=by
 unfold eO;rw[if_neg];rintro(e|e|e|e|e)
 ·exact absurd e (ao.2 h1)
 ·exact absurd h2 (ao.2 e)
 ·exact absurd e (ao.2 h3)
 ·exact absurd e (ao.2 h4)
 ·unfold ie at e;rw[decide_eq_true h5,decide_eq_true h6]at e;cases e
def iO{e:D aC}(h1:(1:Int)<=(e.2.1.length:Int))(h2:(e.2.1.length:Int)<=6)(h3:(e.2.2.1.length:Int)<=36):¬rh e:=by
 rintro(k|k|k)
 ·have k:e.2.1.length<1:=k;omega
 ·have k:e.2.1.length > 6:=k;omega
 ·have k:e.2.2.1.length > 36:=k;omega
def nk(p:D aH):aD:=[32]++p.1++[32]++ab p.2.1++[32]++ab p.2.2.1
def nn(p:D aR):aD:=[32]++ab p.1++[32]++ab p.2.1++[32]++ab p.2.2.1
def vh(e:D aC):aD:=e.1++[32]++ab (e.2.1.length:Int)++[32]++ab (e.2.2.1.length:Int)
def jI(e:D aC)(i:Nat):aD:=vh e++(e.2.1.take i).flatMap nk
def ju(e:D aC)(i:Nat):aD:=jI e e.2.1.length++(e.2.2.1.take i).flatMap nn
def ri(e:D aC):aD:=ju e e.2.2.1.length
def fS(e:D aC):aD:=ri e++[10]
def dG(e:D aC):aD×aL:=if bB e≠0 then([],aJ (bB e))else(fS e,.nil)
def Nb(e:D aC):jI e 0=vh e:=by unfold jI;simp
def Nc(e:D aC):ju e 0=jI e e.2.1.length:=by unfold ju;simp
def Nd{e:D aC}{i:Nat}(h:i<e.2.1.length):jI e (i+1)=jI e i++nk (nth aH e.2.1 i):=by
 unfold jI;rw[gY (t:=aH) h];simp
def Nf{e:D aC}{i:Nat}(h:i<e.2.2.1.length):ju e (i+1)=ju e i++nn (nth aR e.2.2.1 i):=by
 unfold ju;rw[gY (t:=aR) h];simp
structure kZ (e:D aC):Prop where
 nm:Nm e.1
 p1:1<=e.2.1.length
 p6:e.2.1.length<=6
 Co:e.2.2.1.length<=36
 parts:∀i,i<e.2.1.length->Nm (nth aH e.2.1 i).1/\il 1 1000000 (nth aH e.2.1 i).2.1/\il 0 255 (nth aH e.2.1 i).2.2.1
 HZ:∀i,i<e.2.2.1.length->il 0 5 (nth aR e.2.2.1 i).1/\il 0 39 (nth aR e.2.2.1 i).2.1/\il (-2147483648) 2147483647 (nth aR e.2.2.1 i).2.2.1
def Cp{n:Nat}{p:Pt}(h:¬eO n p=0):eO n p=1:=by
 unfold eO at h ⊢;split
 ·rfl
 ·rename_i hh;rw[if_neg hh]at h;exact absurd rfl h
def lE{e:D aC}(h:bB e=0):kZ e:=by
 have h0:aP e.1=0:=by
  apply aq;intro hn;have:=eV e.1;rw[zL (by omega)]at h;exact hn h
 have h1:¬rh e:=by
  intro hm;rw[qn (by omega) hm]at h;cases h
 have h2:∀i,(∀j,j<i->j<e.2.1.length->eE (nth aH e.2.1 j)=0)/\(i<e.2.1.length->eE (nth aH e.2.1 i)=0):=by
  intro i;induction i with
  |zero=>
   refine⟨fun j hj=>by omega,fun hi =>?_⟩;apply aq;intro hn;rw[jB (i:=0) (by omega) h1 (fun j hj=>by omega) hi rfl hn]at h;exact hn h
  |succ i ih=>
   have hs:∀j,j<i+1->j<e.2.1.length->eE (nth aH e.2.1 j)=0:=fun j hj hl=>by
    rcases bg j i with hh|hh
    ·exact ih.1 j hh hl
    ·obtain rfl:j=i:=by omega
     exact ih.2 hl
   refine⟨hs,fun hi =>?_⟩;apply aq;intro hn;rw[jB (i:=i+1) (by omega) h1 (fun j hj=>hs j hj (by omega)) hi rfl hn]at h;exact hn h
 have h2':∀i,i<e.2.1.length->eE (nth aH e.2.1 i)=0:=fun i=>(h2 i).2
 have h3:∀i,(∀j,j<i->j<e.2.2.1.length->eO e.2.1.length (nth aR e.2.2.1 j)=0)/\(i<e.2.2.1.length->eO e.2.1.length (nth aR e.2.2.1 i)=0):=by
  intro i;induction i with
  |zero=>
   refine⟨fun j hj=>by omega,fun hi =>?_⟩;apply aq;intro hn;rw[jC (i:=0) (by omega) h1 h2' (fun j hj=>by omega) hi (Cp hn)]at h;cases h
  |succ i ih=>
   have hs:∀j,j<i+1->j<e.2.2.1.length->eO e.2.1.length (nth aR e.2.2.1 j)=0:=fun j hj hl=>by
    rcases bg j i with hh|hh
    ·exact ih.1 j hh hl
    ·obtain rfl:j=i:=by omega
     exact ih.2 hl
   refine⟨hs,fun hi =>?_⟩;apply aq;intro hn;rw[jC (i:=i+1) (by omega) h1 h2' (fun j hj=>hs j hj (by omega)) hi (Cp hn)]at h;cases h
 have p1:1<=e.2.1.length:=bc.1 fun k=>h1 (.inl k)
 have p6:e.2.1.length<=6:=bc.1 fun k=>h1 (.inr (.inl k))
 refine⟨B9 h0,p1,p6,bc.1 fun k=>h1 (.inr (.inr k)),fun i hi =>?_,fun i hi =>?_⟩
 ·have k:=h2' i hi
  unfold eE at k;split at k
  ·rename_i hn;omega
  ·rename_i hn
   split at k
   ·cases k
   ·rename_i hb
    have:=eV (nth aH e.2.1 i).1;exact⟨B9 (by omega),⟨ao.1 fun k=>hb (.inl k),ao.1 fun k=>hb (.inr (.inl k))⟩,⟨ao.1 fun k=>hb (.inr (.inr (.inl k))),ao.1 fun k=>hb (.inr (.inr (.inr (.inl k))))⟩⟩
 ·have k:=(h3 i).2 hi
  unfold eO at k;split at k
  ·cases k
  ·rename_i hb
   have hw:ie (nth aR e.2.2.1 i).2.2.1=true:=by
    apply Bool.not_eq_false _ |>.mp
    intro k;exact hb (.inr (.inr (.inr (.inr k))))
   unfold ie at hw;simp only[af,decide_eq_true_eq]at hw;have hl:(nth aR e.2.2.1 i).1<(e.2.1.length:Int):=cp.1 fun k=>hb (.inr (.inl k))
   exact⟨⟨ao.1 fun k=>hb (.inl k),by omega⟩,⟨ao.1 fun k=>hb (.inr (.inr (.inl k))),ao.1 fun k=>hb (.inr (.inr (.inr (.inl k))))⟩,hw⟩
def Ng{p:D aH}(h1:Nm p.1)(h2:il 1 1000000 p.2.1)(h3:il 0 255 p.2.2.1):(nk p).length<=64:=by
 have a:=h1.2.1;have b:=dF h2 (by decide) (by decide);have c:=dF h3 (by decide) (by decide);simp[nk];omega
def Nh{p:D aR}(h1:il 0 5 p.1)(h2:il 0 39 p.2.1)(h3:il (-2147483648) 2147483647 p.2.2.1):(nn p).length<=64:=by
 have a:=dF h1 (by decide) (by decide);have b:=dF h2 (by decide) (by decide);have c:=dF h3 (by decide) (by decide);simp[nn];omega
def kZ.head{e:D aC}(h:kZ e):(vh e).length<=64:=by
 have a:=h.nm.2.1;have b:=dF (n:=(e.2.1.length:Int)) (a:=0) (b:=6) ⟨by omega,by have:=h.p6;omega⟩ (by decide) (by decide);have c:=dF (n:=(e.2.2.1.length:Int)) (a:=0) (b:=36) ⟨by omega,by have:=h.Co;omega⟩ (by decide) (by decide);simp[vh];omega
def kZ.Hz{e:D aC}(h:kZ e)(i:Nat):(jI e i).length<=448:=by
 have a:=h.head;have b:=oK (f:=nk) (l:=e.2.1.take i) fun x hx=>by
  obtain⟨j,hj,rfl⟩:=fZ (t:=aH) (b8 hx);obtain⟨k1,k2,k3⟩:=h.parts j hj;exact Ng k1 k2 k3
 have c:=h.p6;have d:(e.2.1.take i).length<=e.2.1.length:=by simp;omega
 unfold jI;rw[aw];omega
def kZ.AL{e:D aC}(h:kZ e)(i:Nat):(ju e i).length<=2752:=by
 have a:=h.Hz e.2.1.length;have b:=oK (f:=nn) (l:=e.2.2.1.take i) fun x hx=>by
  obtain⟨j,hj,rfl⟩:=fZ (t:=aR) (b8 hx);obtain⟨k1,k2,k3⟩:=h.HZ j hj;exact Nh k1 k2 k3
 have c:=h.Co;have d:(e.2.2.1.take i).length<=e.2.2.1.length:=by simp;omega
 unfold ju;rw[aw];omega
def kZ.lens{e:D aC}(h:kZ e):e.1.length<=8/\(ab (e.2.1.length:Int)).length<=19/\(ab (e.2.2.1.length:Int)).length<=19:=
 ⟨h.nm.2.1,dF (a:=0) (b:=6) ⟨by omega,by have:=h.p6;omega⟩ (by decide) (by decide),dF (a:=0) (b:=36) ⟨by omega,by have:=h.Co;omega⟩ (by decide) (by decide)⟩
def kZ.WR{e:D aC}(h:kZ e){i:Nat}(hi:i<e.2.1.length):(nth aH e.2.1 i).1.length<=8/\(ab (nth aH e.2.1 i).2.1).length<=19/\(ab (nth aH e.2.1 i).2.2.1).length<=19/\(jI e i).length<=448:=by
 obtain⟨k1,k2,k3⟩:=h.parts i hi;exact⟨k1.2.1,dF k2 (by decide) (by decide),dF k3 (by decide) (by decide),h.Hz i⟩
def kZ.WS{e:D aC}(h:kZ e){i:Nat}(hi:i<e.2.2.1.length):(ab (nth aR e.2.2.1 i).1).length<=19/\(ab (nth aR e.2.2.1 i).2.1).length<=19/\(ab (nth aR e.2.2.1 i).2.2.1).length<=19/\(ju e i).length<=2752:=by
 obtain⟨k1,k2,k3⟩:=h.HZ i hi;exact⟨dF k1 (by decide) (by decide),dF k2 (by decide) (by decide),dF k3 (by decide) (by decide),h.AL i⟩
def Ni{e:D aC}{i:Nat}(h:i<e.2.1.length):jI e i++nk (nth aH e.2.1 i)=jI e (i+1):=(Nd h).symm
def Nj{e:D aC}{i:Nat}(h:i<e.2.2.1.length):ju e i++nn (nth aR e.2.2.1 i)=ju e (i+1):=(Nf h).symm
def Nk{e:D aC}(h:bB e≠0):([],aJ (bB e))=dG e:=by unfold dG;rw[if_pos h]
def PT{e:D aC}(h:bB e=0){i:Nat}(hi:i=e.2.2.1.length):(ju e i++[10],aL.nil)=dG e:=by unfold dG;rw[if_neg (not_not_intro h),hi];rfl
def vP(L:List aD):aD:=L.flatMap fun x=>32 :: x
def Ds(L M:List aD):vP (L++M)=vP L++vP M:=by simp[vP]
def H0:∀(a:aD) (L:List aD),nH 32 (a :: L)=a++vP L
 |a,[]=>by simp[nH,vP]
 |a,b :: r=>by rw[nH,H0 b r];simp[vP]
def ub(p:D aH):List aD:=[p.1,ab p.2.1,ab p.2.2.1]
def uc(p:D aR):List aD:=[ab p.1,ab p.2.1,ab p.2.2.1]
def kQ(e:D aC):List aD:=e.1 :: ([ab (e.2.1.length:Int),ab (e.2.2.1.length:Int)]++(e.2.1.flatMap ub++e.2.2.1.flatMap uc))
def AV{α:Type}{f:α->List aD}{g:α->aD}(h:∀x,vP (f x)=g x):∀l:List α,vP (l.flatMap f)=l.flatMap g
 |[]=>rfl
 |x :: l=>by rw[bx,Ds,h,AV h l,bx]
def zO(e:D aC):ri e=nH 32 (kQ e):=by
 unfold kQ;rw[H0,Ds,Ds,AV (g:=nk) (by intro x;simp[ub,nk,vP]),AV (g:=nn) (by intro x;simp[uc,nn,vP])];unfold ri ju jI vh;simp[vP]
def zP{e:D aC}(h:kZ e):∀y∈kQ e,(32:UInt8)∉y/\(10:UInt8)∉y:=by
 intro y hy;unfold kQ at hy;rcases ag.1 hy with rfl|hy
 ·exact nJ h.nm
 ·rcases au.1 hy with hy|hy
  ·simp at hy
   rcases hy with rfl|rfl <;> exact⟨jK _,ni _⟩
  ·rcases au.1 hy with hy|hy
   ·obtain⟨p,hp,hy⟩:=fo.1 hy
    obtain⟨j,hj,rfl⟩:=fZ (t:=aH) hp;simp[ub]at hy;rcases hy with rfl|rfl|rfl
    ·exact nJ (h.parts j hj).1
    ·exact⟨jK _,ni _⟩
    ·exact⟨jK _,ni _⟩
   ·obtain⟨p,hp,hy⟩:=fo.1 hy
    simp[uc]at hy;rcases hy with rfl|rfl|rfl <;> exact⟨jK _,ni _⟩
def Cq{c:UInt8}(hc:c≠32):∀{L:List aD},(∀y∈L,c∉y)->c∉nH 32 L
 |[],_=>by simp[nH]
 |[x],h=>h x (by simp)
 |x :: y :: r,h=>by
  rw[nH];intro hm;rcases au.1 hm with hm|hm
  ·exact h x (by simp) hm
  ·rcases ag.1 hm with e|hm
   ·exact hc e
   ·exact Cq hc (fun z hz=>h z (by simp[hz])) hm
def Nl{e:D aC}(h:kZ e):(10:UInt8)∉ri e:=by
 rw[zO];exact Cq (by decide) fun y hy=>(zP h y hy).2
def J2{e:D aC}(h:kZ e):parts 32 (ri e)=kQ e:=by
 rw[zO];exact tj (by unfold kQ;simp) fun y hy=>(zP h y hy).1
def tn{e:D aC}(h:kZ e):parts 32 (ae (fS e) [10])=kQ e:=by
 unfold fS;rw[tX,J2 h]
theorem xy{α:Type}{f:α->List aD}(hf:∀x,(f x).length=3):∀l:List α,(l.flatMap f).length=3*l.length
 |[]=>rfl
 |x :: l=>by rw[bx,aw,hf,xy hf l,cj];omega
theorem xz{α:Type}[Inhabited α]{f:α->List aD}(hf:∀x,(f x).length=3):∀(l:List α) (i k:Nat),i<l.length->k<3->nth .str (l.flatMap f) (3*i+k)=nth .str (f (l.getD i default)) k
 |[],i,k,h,_=>by simp at h
 |x :: l,0,k,_,hk=>by
  rw[bx,sN (t:=.str) (by rw[hf];omega)];simp
 |x :: l,i+1,k,h,hk=>by
  rw[bx,pk,if_neg (by rw[hf];omega),hf,show 3*(i+1)+k-3=3*i+k by omega,xz hf l i k (by simpa using h) hk];simp
structure mq (w:List aD) (e:D aC):Prop where
 len:w.length=3+3*(e.2.1.length+e.2.2.1.length)
 root:nth .str w 0=e.1
 a:nth .str w 1=ab (e.2.1.length:Int)
 b:nth .str w 2=ab (e.2.2.1.length:Int)
 p0:∀i,i<e.2.1.length->nth .str w (3+3*i)=(nth aH e.2.1 i).1
 p1:∀i,i<e.2.1.length->nth .str w (4+3*i)=ab (nth aH e.2.1 i).2.1
 p2:∀i,i<e.2.1.length->nth .str w (5+3*i)=ab (nth aH e.2.1 i).2.2.1
 q0:∀i,i<e.2.2.1.length->nth .str w (3+3*(e.2.1.length+i))=ab (nth aR e.2.2.1 i).1
 q1:∀i,i<e.2.2.1.length->nth .str w (4+3*(e.2.1.length+i))=ab (nth aR e.2.2.1 i).2.1
 q2:∀i,i<e.2.2.1.length->nth .str w (5+3*(e.2.1.length+i))=ab (nth aR e.2.2.1 i).2.2.1
def zQ{t:Ty}{l:List (D t)}{i:Nat}(d:D t)(h:i<l.length):nth t l i=l.getD i d:=by
 unfold nth;rw[List.getD_eq_getElem?_getD,List.getD_eq_getElem?_getD,List.getElem?_eq_getElem h];rfl
def H2(e:D aC):mq (kQ e) e:=by
 have hs:∀x,(ub x).length=3:=fun _=>rfl
 have hp:∀x,(uc x).length=3:=fun _=>rfl
 have ls:=xy hs e.2.1;have lp:=xy hp e.2.2.1;have at3:∀k,nth .str (kQ e) (3+k)=nth .str (e.2.1.flatMap ub++e.2.2.1.flatMap uc) k:=fun k=>by
  rw[show 3+k=k+1+1+1 by omega];rfl
 letI:Inhabited (D aH):=⟨bV aH⟩
 letI:Inhabited (D aR):=⟨bV aR⟩
 have hP:∀i k,i<e.2.1.length->k<3->nth .str (kQ e) (3+(3*i+k))=nth .str (ub (nth aH e.2.1 i)) k:=fun i k hi hk=>by
  rw[at3,sN (t:=.str) (by omega),xz hs _ i k hi hk,zQ default hi]
 have hQ:∀i k,i<e.2.2.1.length->k<3->nth .str (kQ e) (3+(3*(e.2.1.length+i)+k))=nth .str (uc (nth aR e.2.2.1 i)) k:=fun i k hi hk=>by
  rw[at3,pk,if_neg (by omega),ls,show 3*(e.2.1.length+i)+k-3*e.2.1.length=3*i+k by omega,xz hp _ i k hi hk,zQ default hi]
 refine⟨?_,rfl,rfl,rfl,fun i hi =>?_,fun i hi =>?_,fun i hi =>?_,fun i hi =>?_,fun i hi =>?_,fun i hi =>?_⟩
 ·unfold kQ;simp only[cj,aw,fl,ls,lp];omega
 ·exact hP i 0 hi (by omega)
 ·rw[show 4+3*i=3+(3*i+1) by omega];exact hP i 1 hi (by omega)
 ·rw[show 5+3*i=3+(3*i+2) by omega];exact hP i 2 hi (by omega)
 ·exact hQ i 0 hi (by omega)
 ·rw[show 4+3*(e.2.1.length+i)=3+(3*(e.2.1.length+i)+1) by omega];exact hQ i 1 hi (by omega)
 ·rw[show 5+3*(e.2.1.length+i)=3+(3*(e.2.1.length+i)+2) by omega];exact hQ i 2 hi (by omega)
def partAt(A:aD->Int)(w:List aD)(i:Nat):D aH:=(nth .str w (3+3*i),A (nth .str w (4+3*i)),A (nth .str w (5+3*i)),())
def ud(A:aD->Int)(w:List aD)(i:Nat):D aR:=(A (nth .str w (3+3*i)),A (nth .str w (4+3*i)),A (nth .str w (5+3*i)),())
def dX(A:aD->Int)(w:List aD)(n:Nat):List (D aH):=(ba n).map (partAt A w)
def cU(A:aD->Int)(w:List aD)(a n:Nat):List (D aR):=(ba n).map fun i=>ud A w (a+i)
def zR(A:aD->Int)(w:List aD)(n:Nat):(dX A w n).length=n:=by simp[dX]
def vQ(A:aD->Int)(w:List aD)(a n:Nat):(cU A w a n).length=n:=by simp[cU]
def J3{A:aD->Int}{w:List aD}{n i:Nat}(h:i<n):nth aH (dX A w n) i=partAt A w i:=by
 unfold nth dX;rw[List.getD_eq_getElem?_getD,List.getElem?_map,List.getElem?_range h];rfl
def F2{A:aD->Int}{w:List aD}{a n i:Nat}(h:i<n):nth aR (cU A w a n) i=ud A w (a+i):=by
 unfold nth cU;rw[List.getD_eq_getElem?_getD,List.getElem?_map,List.getElem?_range h];rfl
def H3(A:aD->Int)(w:List aD)(n:Nat):dX A w (n+1)=dX A w n++[partAt A w n]:=by simp[dX,cq]
def Dt(A:aD->Int)(w:List aD)(a n:Nat):cU A w a (n+1)=cU A w a n++[ud A w (a+n)]:=by simp[cU,cq]
def Ui(A:aD->Int):Prop:=∀n:Int,il (-2147483648) 2147483647 n->A (ab n)=n
def gZ{a b n:Int}(h:il a b n)(ha : -2147483648<=a)(hb:b<=2147483647):il (-2147483648) 2147483647 n:=⟨b7 ha h.1,b7 h.2 hb⟩
def kZ.na{e:D aC}(h:kZ e):il 0 6 (e.2.1.length:Int):=⟨by omega,by have:=h.p6;omega⟩
def kZ.nb{e:D aC}(h:kZ e):il 0 36 (e.2.2.1.length:Int):=⟨by omega,by have:=h.Co;omega⟩
def mq.eq{A:aD->Int}(hA:Ui A){w:List aD}{e:D aC}(r:mq w e)(h:kZ e):e=(nth .str w 0,dX A w e.2.1.length,cU A w e.2.1.length e.2.2.1.length,()):=by
 obtain⟨s,p,q,_⟩:=e;have e1:p=dX A w p.length:=kf (t:=aH) (by rw[zR]) fun i hi=>by
  rw[J3 hi];obtain⟨k1,k2,k3⟩:=h.parts i hi;unfold partAt;rw[r.p0 i hi,r.p1 i hi,r.p2 i hi,hA _ (gZ k2 (by decide) (by decide)),hA _ (gZ k3 (by decide) (by decide))]
 have e2:q=cU A w p.length q.length:=kf (t:=aR) (by rw[vQ]) fun i hi=>by
  rw[F2 hi];obtain⟨k1,k2,k3⟩:=h.HZ i hi;unfold ud;rw[r.q0 i hi,r.q1 i hi,r.q2 i hi,hA _ (gZ k1 (by decide) (by decide)),hA _ (gZ k2 (by decide) (by decide)),hA _ k3]
 have e0:nth .str w 0=s:=r.root;rw[e0];exact congrArg (fun z=>(s,z)) (show(p,q,())=(dX A w p.length,cU A w p.length q.length,()) by rw[<-e1,<-e2])
def dD(s:aD):Int:=(dZ s).1
def iP:Ui dD:=fun n h=>by
 have:=rr h (by decide) (by decide);exact nj this
def PU{e e':D aC}(h:bB e=0)(h':bB e'=0)(ht:fS e=fS e'):e=e':=by
 have k:=lE h;have k':=lE h';have hw:kQ e=kQ e':=by rw[<-tn k,<-tn k',ht]
 have r:=H2 e;have r':=H2 e';rw[hw]at r;have ha:(e.2.1.length:Int)=(e'.2.1.length:Int):=by
  rw[<-iP _ (gZ k.na (by decide) (by decide)),<-iP _ (gZ k'.na (by decide) (by decide)),<-r.a,<-r'.a]
 have hb:(e.2.2.1.length:Int)=(e'.2.2.1.length:Int):=by
  rw[<-iP _ (gZ k.nb (by decide) (by decide)),<-iP _ (gZ k'.nb (by decide) (by decide)),<-r.b,<-r'.b]
 refine(r.eq iP k).trans (Eq.trans ?_ (r'.eq iP k').symm);rw[dd.1 ha,dd.1 hb]
open Classical in
def oN(s:aD):D aC×Int:=if h:∃e:D aC,bB e=0/\fS e=s then(b9 h,0)else(bV aC,4)
def Lh{s:aD}{e:D aC}(hf:bB e=0)(ht:fS e=s):oN s=(e,0):=by
 have hx:∃e:D aC,bB e=0/\fS e=s:=⟨e,hf,ht⟩
 have hc:=cz hx;unfold oN;rw[dif_pos hx,PU hc.1 hf (hc.2.trans ht.symm)]
def SO{s:aD}(hn:∀e:D aC,bB e=0->fS e=s->False):oN s=(bV aC,4):=by
 unfold oN;rw[dif_neg fun⟨e,h1,h2⟩=>hn e h1 h2]
def gW(s:aD):D aC×aL:=((oN s).1,aJ (oN s).2)
def pC{s:aD}(hn:∀e:D aC,bB e=0->fS e=s->False):(bV aC,aL.no 4)=gW s:=by unfold gW;rw[SO hn];rfl
def PV{s:aD}{e:D aC}(h:(dG e).2.isNil=true)(ht:(dG e).1=s):(e,aL.nil)=gW s:=by
 have hf:bB e=0:=by
  apply aq;intro hf;unfold dG at h;rw[if_pos hf]at h;exact hf (aK.1 h)
 unfold dG at ht;rw[if_neg (not_not_intro hf)]at ht;unfold gW;rw[Lh hf ht];rfl
def l8(l:List aD):List Int:=l.map dD
def vj(l:List aD):Bool:=l.all fun s=>(cT s).isSome
def bS(l:List aD):List Int×Bool:=if vj l=true then(l8 l,true)else([],false)
def SP{l:List aD}{i:Nat}(hi:i<l.length)(h:cT (nth .str l i)=none):vj l=false:=by
 unfold vj;rw[c6];exact⟨nth .str l i,dJ (t:=.str) hi,by rw[h];decide⟩
def zS{l:List aD}{i:Nat}(hi:i<l.length)(h:(cT (nth .str l i)).isNone=true):([],false)=bS l:=by
 unfold bS;rw[SP hi (Option.isNone_iff_eq_none.1 h)];rfl
def vk{l:List aD}(h:∀j,j<l.length->(cT (nth .str l j)).isNone=false):vj l=true:=by
 unfold vj;rw[ca];intro s hs;obtain⟨j,hj,rfl⟩:=fZ (t:=.str) hs;have:=h j hj;cases hh:cT (nth .str l j)with
 |none=>rw[hh]at this;cases this
 |some n=>rfl
def Nn{l:List aD}{i:Nat}(hi:¬i<l.length)(h:∀j,j<i->j<l.length->(cT (nth .str l j)).isNone=false):(l8 (l.take i),true)=bS l:=by
 unfold bS;rw[vk fun j hj=>h j (by omega) hj,if_pos rfl,cg (by omega)]
def Cr{l:List aD}{i:Nat}(h:i<l.length):l8 (l.take (i+1))=l8 (l.take i)++[(dZ (nth .str l i)).1]:=by
 rw[gY (t:=.str) h];simp[l8,dD]
def np{l:List aD}:(bS l).2=vj l:=by
 unfold bS;split
 ·rename_i h;rw[h]
 ·rename_i h;rw[fh _ |>.mp h]
def zT{l:List aD}(h:(bS l).2=true){i:Nat}(hi:i<l.length):nth (.int .i64) (bS l).1 i=dD (nth .str l i)/\(cT (nth .str l i)).isNone=false:=by
 have hk:=h;rw[np]at hk;constructor
 ·unfold bS;rw[if_pos hk]
  unfold nth l8;rw[List.getD_eq_getElem?_getD,List.getD_eq_getElem?_getD,List.getElem?_map,List.getElem?_eq_getElem hi];rfl
 ·unfold vj at hk
  rw[ca]at hk;have:=hk _ (dJ (t:=.str) hi);cases hh:cT (nth .str l i)with
  |none=>rw[hh]at this;cases this
  |some n=>rfl
def J4{l:List aD}(h:(bS l).2=true):(bS l).1.length=l.length:=by
 rw[np]at h;unfold bS;rw[if_pos h];simp[l8]
structure pY (w:List aD):Prop where
 ka:(cT (nth .str w 1)).isNone=false
 kb:(cT (nth .str w 2)).isNone=false
 a0:(0:Int)<=dD (nth .str w 1)
 a6:dD (nth .str w 1)<=(6:Int)
 b0:(0:Int)<=dD (nth .str w 2)
 fF:dD (nth .str w 2)<=(36:Int)
 len:(w.length:Int)=3+3*(dD (nth .str w 1)+dD (nth .str w 2))
def Cs{t:Ty}{l:List (D t)}{i j k:Nat}(h:i+k<j):nth t (ai i (ah j l)) k=nth t l (i+k):=by
 unfold nth;rw[List.getD_eq_getElem?_getD,List.getD_eq_getElem?_getD,List.getElem?_drop,List.getElem?_take,if_pos h]
def H4{α:Type}{l:List α}{i j:Nat}(h:j<=l.length):(ai i (ah j l)).length=j-i:=by simp;omega
def PW(s:aD)(c:UInt8)(h:s.length<=100000):(parts c (ae s [10])).length<=100001:=by
 have a:=sK c (ae s [10]);have b:=yw s [10];omega
def qI{l:List aD}{n:Nat}(h:∀y∈l,y.length<=n)(i:Nat):(nth .str l i).length<=n:=by
 by_cases hi:i<l.length
 ·exact h _ (dJ (t:=.str) hi)
 ·unfold nth;rw[List.getD_eq_getElem?_getD,List.getElem?_eq_none (by omega)];exact ar _
def tp{s:aD}{c:UInt8}(h:s.length<=100000):∀y∈parts c (ae s [10]),y.length<=1000000:=fun y hy=>by
 have a:=oJ c _ y hy;have b:=yw s [10];omega
def H5{l:List aD}{n:Nat}(h:∀y∈l,y.length<=n)(i j:Nat):∀y∈ai i (ah j l),y.length<=n:=fun y hy=>h y (b8 (List.mem_of_mem_drop hy))
def U1{s:aD}{c:UInt8}(h:s.length<=100000)(i j:Nat):(ai i (ah j (parts c (ae s [10])))).length<=1000000/\∀k,(nth .str (ai i (ah j (parts c (ae s [10])))) k).length<=1000000:=
 ⟨by have:=PW s c h;simp;omega,qI (H5 (tp h) i j)⟩
def U2{w:List aD}(h:3<=w.length)(hk:(bS (ai 1 (ah 3 w))).2=true) :
  (bS (ai 1 (ah 3 w))).1=[dD (nth .str w 1),dD (nth .str w 2)]/\(cT (nth .str w 1)).isNone=false/\(cT (nth .str w 2)).isNone=false:=by
 have hl:(ai 1 (ah 3 w)).length=2:=H4 h;obtain⟨a1,a2⟩:=zT hk (i:=0) (by omega);obtain⟨b1,b2⟩:=zT hk (i:=1) (by omega);have hn:=J4 hk;rw[Cs (t:=.str) (by omega)]at a1 a2 b1 b2;refine⟨kf (t:=.int .i64) (by rw[hn,hl];rfl) fun i hi =>?_,a2,b2⟩;rw[hn,hl]at hi;rcases(show i=0\/i=1 by omega)with rfl|rfl
 ·rw[a1];rfl
 ·rw[b1];rfl
def J5{w:List aD}(h:3<=w.length)(hk:(bS (ai 1 (ah 3 w))).2=false):¬pY w:=by
 intro hd;have hl:(ai 1 (ah 3 w)).length=2:=H4 h;rw[np,vk fun j hj =>?_]at hk
 ·cases hk
 ·rw[hl]at hj
  rcases(show j=0\/j=1 by omega)with rfl|rfl
  ·rw[Cs (t:=.str) (by omega)];exact hd.ka
  ·rw[Cs (t:=.str) (by omega)];exact hd.kb
def H6{w:List aD}(h:¬pY w):(true=false↔pY w):=⟨fun e=>Bool.noConfusion e,fun e=>absurd e h⟩
def Wm{w:List aD}(ka:(cT (nth .str w 1)).isNone=false)(kb:(cT (nth .str w 2)).isNone=false){a b x:Int}(ha:a=dD (nth .str w 1))(hb:b=dD (nth .str w 2))
  (a0:0<=a)(a6:a<=6)(b0:0<=b)(fF:b<=36)(hx:x=3*(a+b)):(((w.length:Int) != 3+x)=false↔pY w):=by
 subst ha;subst hb;subst hx;constructor
 ·intro h;exact⟨ka,kb,a0,a6,b0,fF,by simpa using h⟩
 ·intro h;simpa using h.len
def pZ{s:aD}{e:D aC}(hf:bB e=0)(ht:fS e=s):mq (parts 32 (ae s [10])) e/\kZ e:=by
 have k:=lE hf;rw[<-ht,tn k];exact⟨H2 e,k⟩
def mq.na{A:aD->Int}(hA:Ui A){w:List aD}{e:D aC}(r:mq w e)(k:kZ e):A (nth .str w 1)=(e.2.1.length:Int):=by rw[r.a,hA _ (gZ k.na (by decide) (by decide))]
def mq.nb{A:aD->Int}(hA:Ui A){w:List aD}{e:D aC}(r:mq w e)(k:kZ e):A (nth .str w 2)=(e.2.2.1.length:Int):=by rw[r.b,hA _ (gZ k.nb (by decide) (by decide))]
def nq{n:Int}(h:il (-2147483648) 2147483647 n):(cT (ab n)).isNone=false:=by rw[rr h (by decide) (by decide)];rfl
def mq.hd{w:List aD}{e:D aC}(r:mq w e)(k:kZ e):pY w:=by
 have a:=r.na iP k;have b:=r.nb iP k;have c:=k.p6;have d:=k.Co;have l:=r.len;refine⟨by rw[r.a];exact nq (gZ k.na (by decide) (by decide)),by rw[r.b];exact nq (gZ k.nb (by decide) (by decide)),?_,?_,?_,?_,?_⟩ <;> (try rw[a]) <;> (try rw[b]) <;> omega
section
variable{s:aD}
def H7(h:(parts 32 (ae s [10])).length<3):(bV aC,aL.no 4)=gW s:=pC fun e hf ht=>by
 have:=(pZ hf ht).1.len;omega
def J6(h:¬pY (parts 32 (ae s [10]))):(bV aC,aL.no 4)=gW s:=pC fun e hf ht=>h ((pZ hf ht).1.hd (pZ hf ht).2)
def SQ{w:List aD}{e:D aC}(r:mq w e)(k:kZ e){i:Nat}(hi:i<e.2.1.length):(cT (nth .str w (4+3*i))).isNone=false/\(cT (nth .str w (5+3*i))).isNone=false:=by
 obtain⟨_,k2,k3⟩:=k.parts i hi;rw[r.p1 i hi,r.p2 i hi];exact⟨nq (gZ k2 (by decide) (by decide)),nq (gZ k3 (by decide) (by decide))⟩
def PX{w:List aD}{e:D aC}(r:mq w e)(k:kZ e){i:Nat}(hi:e.2.1.length<=i)(hi2:i<e.2.1.length+e.2.2.1.length) :
  (cT (nth .str w (3+3*i))).isNone=false/\(cT (nth .str w (4+3*i))).isNone=false/\(cT (nth .str w (5+3*i))).isNone=false:=by
 obtain⟨j,rfl⟩:∃j,i=e.2.1.length+j:=⟨i-e.2.1.length,by omega⟩
 obtain⟨k1,k2,k3⟩:=k.HZ j (by omega);rw[r.q0 j (by omega),r.q1 j (by omega),r.q2 j (by omega)];exact⟨nq (gZ k1 (by decide) (by decide)),nq (gZ k2 (by decide) (by decide)),nq k3⟩
structure lh (w x:List aD) (i:Nat):Prop where
 len:x.length=3
 a:nth .str x 0=nth .str w (3+3*i)
 b:nth .str x 1=nth .str w (4+3*i)
 c:nth .str x 2=nth .str w (5+3*i)
def PY{w:List aD}{i:Nat}{p q:Int}(hp:p=3*(i:Int))(hq:q=3*(i:Int))(h:3+3*(i+1)<=w.length):lh w (ai (cc (3+p)) (ah (cc (6+q)) w)) i:=by
 subst hp;subst hq;rw[show cc (3+3*(i:Int))=3+3*i by omega,show cc (6+3*(i:Int))=6+3*i by omega];refine⟨by rw[H4 (by omega)];omega,?_,?_,?_⟩ <;> rw[Cs (t:=.str) (by omega)] <;> congr 1 <;> omega
def zU{n:Nat}{w x:List aD}{i:Nat}(h:lh w x i)(hw:∀y∈w,y.length<=n)(k:Nat):(nth .str x k).length<=n:=by
 rcases bg k 3 with hk|hk
 ·rcases(show k=0\/k=1\/k=2 by omega)with rfl|rfl|rfl
  ·rw[h.a];exact qI hw _
  ·rw[h.b];exact qI hw _
  ·rw[h.c];exact qI hw _
 ·unfold nth;rw[List.getD_eq_getElem?_getD,List.getElem?_eq_none (by rw[h.len];omega)];exact ar _
def Ct{w x:List aD}{i:Nat}(h:lh w x i):ai 1 (ah (bj x) x)=[nth .str w (4+3*i),nth .str w (5+3*i)]:=by
 match x,h with
 |[p,q,r],h=>rw[<-h.b,<-h.c];rfl
def H8{w x:List aD}{i:Nat}(h:lh w x i):x=[nth .str w (3+3*i),nth .str w (4+3*i),nth .str w (5+3*i)]:=by
 match x,h with
 |[p,q,r],h=>rw[<-h.a,<-h.b,<-h.c];rfl
def EU{w x:List aD}{i:Nat}(h:lh w x i)(hk:(bS (ai 1 (ah (bj x) x))).2=true) :
  (bS (ai 1 (ah (bj x) x))).1=[dD (nth .str w (4+3*i)),dD (nth .str w (5+3*i))]:=by
 rw[np]at hk;unfold bS;rw[if_pos hk,Ct h];rfl
def H9{w x:List aD}{i:Nat}(h:lh w x i)(hk:(bS x).2=true):(bS x).1=[dD (nth .str w (3+3*i)),dD (nth .str w (4+3*i)),dD (nth .str w (5+3*i))]:=by
 rw[np]at hk;unfold bS;rw[if_pos hk];conv=>lhs;rw[H8 h]
 rfl
def J7{x:List aD}{i:Nat}(h:lh (parts 32 (ae s [10])) x i)(hi:(i:Int)<dD (nth .str (parts 32 (ae s [10])) 1))(hk:(bS (ai 1 (ah (bj x) x))).2=false):(bV aC,aL.no 4)=gW s:=
 pC fun e hf ht=>by
  obtain⟨r,k⟩:=pZ hf ht;rw[r.na iP k]at hi;obtain⟨a,b⟩:=SQ r k (i:=i) (by omega);rw[np,Ct h,vk fun j hj =>?_]at hk
  ·cases hk
  ·rcases(show j=0\/j=1 by simp at hj;omega)with rfl|rfl
   ·exact a
   ·exact b
def Ia{x:List aD}{i:Nat}(h:lh (parts 32 (ae s [10])) x i)(hi:dD (nth .str (parts 32 (ae s [10])) 1)<=(i:Int))(hi2:(i:Int)<dD (nth .str (parts 32 (ae s [10])) 1)+dD (nth .str (parts 32 (ae s [10])) 2))(hk:(bS x).2=false):(bV aC,aL.no 4)=gW s:=
 pC fun e hf ht=>by
  obtain⟨r,k⟩:=pZ hf ht;rw[r.na iP k]at hi hi2;rw[r.nb iP k]at hi2;obtain⟨a,b,c⟩:=PX r k (i:=i) (by omega) (by omega);rw[H8 h]at hk;rw[np,vk fun j hj =>?_]at hk
  ·cases hk
  ·rcases(show j=0\/j=1\/j=2 by simp at hj;omega)with rfl|rfl|rfl
   ·exact a
   ·exact b
   ·exact c
def Gh(A:aD->Int)(w:List aD)(a b:Nat):D aC:=(nth .str w 0,dX A w a,cU A w a b,())
def zV{a b:Nat}(ha:dD (nth .str (parts 32 (ae s [10])) 1)=(a:Int))(hb:dD (nth .str (parts 32 (ae s [10])) 2)=(b:Int))
  (h:(dG (Gh dD (parts 32 (ae s [10])) a b)).2.isNil=false\/¬(dG (Gh dD (parts 32 (ae s [10])) a b)).1=s):(bV aC,aL.no 4)=gW s:=
 pC fun e hf ht=>by
  obtain⟨r,k⟩:=pZ hf ht;rw[r.na iP k]at ha;rw[r.nb iP k]at hb;have he:Gh dD (parts 32 (ae s [10])) a b=e:=by
   rw[<-dd.1 ha,<-dd.1 hb];exact(r.eq iP k).symm
  rw[he]at h;unfold dG at h;rw[if_neg (not_not_intro hf)]at h;rcases h with h|h
  ·cases h
  ·exact h ht
end
def qY(w:List aD)(y:List Int×Bool):Prop:=(y.2=true->y.1=[dD (nth .str w 1),dD (nth .str w 2)]/\(cT (nth .str w 1)).isNone=false/\(cT (nth .str w 2)).isNone=false)/\(y.2=false->¬pY w)
def U3{w:List aD}(h:3<=w.length):qY w (bS (ai 1 (ah 3 w))):=⟨fun hk=>U2 h hk,fun hk=>J5 h hk⟩
def qY.ok{w:List aD}{y:List Int×Bool}(h:qY w y)(hd:pY w):y.2=true:=by
 cases hy:y.2 with
 |true=>rfl
 |false=>exact absurd hd (h.2 hy)
def qY.get{w:List aD}{y:List Int×Bool}(h:qY w y)(hd:pY w):y.1=[dD (nth .str w 1),dD (nth .str w 2)]:=(h.1 (h.ok hd)).1
def qY.l0{w:List aD}{y:List Int×Bool}(h:qY w y)(hy:y.2=true):@Eq Int (nth (.int .i64) y.1 0) (dD (nth .str w 1)):=by rw[(h.1 hy).1];rfl
def qY.l1{w:List aD}{y:List Int×Bool}(h:qY w y)(hy:y.2=true):@Eq Int (nth (.int .i64) y.1 1) (dD (nth .str w 2)):=by rw[(h.1 hy).1];rfl
def qY.k0{w:List aD}{y:List Int×Bool}(h:qY w y)(hd:pY w):@Eq Int (nth (.int .i64) y.1 0) (dD (nth .str w 1)):=h.l0 (h.ok hd)
def qY.k1{w:List aD}{y:List Int×Bool}(h:qY w y)(hd:pY w):@Eq Int (nth (.int .i64) y.1 1) (dD (nth .str w 2)):=h.l1 (h.ok hd)
def PZ{w x:List aD}{i:Nat}(h:lh w x i)(hw:∀y∈w,y.length<=1000000):x.length<=1000000/\∀k,(nth .str x k).length<=1000000:=⟨by rw[h.len];decide,zU h hw⟩
def P0{w x:List aD}{i:Nat}(h:lh w x i){n:Nat}(hw:∀y∈w,y.length<=n):∀y∈x,y.length<=n:=fun y hy=>by
 obtain⟨k,hk,rfl⟩:=fZ (t:=.str) hy;exact zU h hw k
def No{w x:List aD}{i:Nat}(h:lh w x i)(hw:∀y∈w,y.length<=1000000):(ai 1 (ah (bj x) x)).length<=1000000/\∀k,(nth .str (ai 1 (ah (bj x) x)) k).length<=1000000:=
 ⟨by have:=h.len;simp;omega,qI (H5 (P0 h hw) _ _)⟩
def P1(A:aD->Int)(w:List aD)(k:Nat):([]:List (D aH))=dX A w (a8 0 k):=by rw[show a8 0 k=0 from Nat.zero_min k];rfl
def Uj(A:aD->Int)(w:List aD)(k:Nat):([]:List (D aR))=cU A w k (0-k):=by rw[Nat.zero_sub];rfl
def P2{i k:Nat}(h:i<k):a8 i k=i/\a8 (i+1) k=i+1:=⟨c7 (by omega),c7 h⟩
def Ib{i k:Nat}(h:k<=i):a8 i k=k/\a8 (i+1) k=k:=⟨fp h,fp (by omega)⟩
def EV{w x:List aD}{i k:Nat}(h:lh w x i)(hk:(bS (ai 1 (ah (bj x) x))).2=true)(hi:i<k) :
  dX dD w (a8 i k)++[(nth .str x 0,nth (.int .i64) (bS (ai 1 (ah (bj x) x))).1 0,nth (.int .i64) (bS (ai 1 (ah (bj x) x))).1 1,())]=dX dD w (a8 (i+1) k):=by
 rw[(P2 hi).1,(P2 hi).2,H3,EU h hk,h.a];rfl
def EW{A:aD->Int}{w:List aD}{i k:Nat}(hi:i<k):cU A w k (i-k)=cU A w k (i+1-k):=by congr 1;omega
def Cu{A:aD->Int}{w:List aD}{i k:Nat}(hi:k<=i):dX A w (a8 i k)=dX A w (a8 (i+1) k):=by rw[(Ib hi).1,(Ib hi).2]
def Ic{w x:List aD}{i k:Nat}(h:lh w x i)(hk:(bS x).2=true)(hi:k<=i) :
  cU dD w k (i-k)++[(nth (.int .i64) (bS x).1 0,nth (.int .i64) (bS x).1 1,nth (.int .i64) (bS x).1 2,())]=cU dD w k (i+1-k):=by
 rw[show i+1-k=(i-k)+1 by omega,Dt,H9 h hk];unfold ud;rw[show k+(i-k)=i by omega];rfl
def Ie{A:aD->Int}{w:List aD}{i a b:Nat}(h:i=a+b):(((nth .str w 0,dX A w (a8 i a),cU A w a (i-a),())):D aC)=Gh A w a b:=by
 rw[(Ib (i:=i) (k:=a) (by omega)).1,show i-a=b by omega];rfl
def Np{A:aD->Int}{w:List aD}{n:Nat}{x:D aH}(h:n<=100):(dX A w n).length+ [x].length<=1000000000:=by rw[zR,da];omega
def P3{A:aD->Int}{w:List aD}{k n:Nat}{x:D aR}(h:n<=100):(cU A w k n).length+ [x].length<=1000000000:=by rw[vQ,da];omega
def J8{A:aD->Int}{w:List aD}{i k:Nat}{x:D aH}(h:k<=100):(dX A w (a8 i k)).length+ [x].length<=1000000000:=Np (b5 (Nat.min_le_right i k) h)
def vm{e:D aC}(h:(dG e).2.isNil=true):bB e=0/\(dG e).1=fS e:=by
 have hf:bB e=0:=by
  apply aq;intro hf;unfold dG at h;rw[if_pos hf]at h;exact hf (aK.1 h)
 exact⟨hf,by unfold dG;rw[if_neg (not_not_intro hf)]⟩
def Nq{e:D aC}(h:(dG e).2.isNil=true):(dG e).1.length<=2753:=by
 obtain⟨hf,ht⟩:=vm h;rw[ht];unfold fS;have:=(lE hf).AL e.2.2.1.length;rw[aw];unfold ri;simp;omega
section
variable{s:aD}
end
def Ig(e:D aC):(dG e).2=aJ (bB e):=by
 unfold dG;split
 ·rfl
 ·next h=>rw[Classical.not_not.1 h];rfl
end Go.Mrl

namespace Go.Vg
open Go.RowKit
def mO(F:Fence):Prop:=F=bd\/∃l,F=bd.inRound l
def mr(ds:List Deferred)(a:Act):Act:={a with defers:=ds}
def rv(ds:List Deferred)(a:Act)(d:Option Tmp)(v:Value):(mr ds a).put d v=mr ds (a.put d v):=by cases d <;> rfl
def Ih(ds:List Deferred)(a:Act):(mr ds a).eval=a.eval:=by funext x;cases x <;> rfl
def Ii(ds:List Deferred)(a:Act):(mr ds a).tmps=a.tmps:=rfl
def put_defers(a:Act)(d:Option Tmp)(v:Value):(a.put d v).defers=a.defers:=by cases d <;> rfl
section
variable{P:Program}{F:Fence}{n:Nat}
def mO.fn(h:mO F)(f:FuncId):F.fn f:=by rcases h with rfl|⟨l,rfl⟩ <;> trivial
def mO.deep(h:mO F):¬F.depth.isSome=true:=by rcases h with rfl|⟨l,rfl⟩ <;> simp[bd,Fence.inRound]
def mO.calls(h:mO F){f:FuncId}{args:Array Value}{w:World}{R:Ending->World->Prop}(hc:Calls P f args w R):CallsIn F n P f args w R:=by
 rcases h with rfl|⟨l,rfl⟩
 ·exact callsIn_wide.2 hc
 ·exact CallsIn.inRound l (callsIn_wide.2 hc)
def mO.rows(h:mO F){row:String}{args:Array Value}{w:World}{R:Value->World->Prop}(hc:Rows P row args w R):RowsIn F n P row args w R:=by
 have hs:∀{m m':Machine},Steps P m m'->StepsIn (Machine.fenced P F) P m m':=by
  rcases h with rfl|⟨l,rfl⟩
  ·exact stepsIn_wide.2
  ·exact fun hh=>stepsIn_wide.2 hh
 intro c cs _;obtain⟨v,w',r,s⟩:=hc c cs;exact⟨v,w',r,hs s⟩
structure vo (Q:Exit->Act->World->Prop):Prop where
 bare:∀e a w,Q e a w->a.defers=[]
 P4:∀c a w,¬Q (.panic c) a w
 out:¬LetsOut Q
variable{Q Q':Exit->Act->World->Prop}
def Du(hQ:vo Q){o:Oper}{K:Act->World->Prop}(hK:∀a w,K a w->a.defers=[]){a:Act}{w:World}(h:o.wp P a w K Q):a.defers=[]:=by
 unfold Oper.wp at h;generalize (execOp a.eval o).run P w=r at h;cases r with
 |ok x w'=>
  cases x with
  |value v=>have:=hK _ _ h;rwa [put_defers]at this
  |skip=>have:=hK _ _ h;rwa [put_defers]at this
  |defer d=>have:=hK _ _ h;rw[put_defers]at this;cases this
  |enter f args=>
   obtain⟨e,w2,fr,hr,_⟩:=h [];cases e with
   |returned v=>have:=hK _ _ hr;rwa [put_defers]at this
   |panicked c=>exact absurd hr (hQ.P4 _ _ _)
   |outgrown=>exact absurd hr hQ.out
  |row row args=>
   obtain⟨v,w2,hr,_⟩:=h default [];have:=hK _ _ hr;rwa [put_defers]at this
  |_=>exact h.elim
 |halt x w'=>
  cases x with
  |panic v=>exact absurd h (hQ.P4 _ _ _)
  |_=>exact h.elim
def nL(o:Oper):Bool:=match o.op with
 |.defer _=>false
 |_=>true
def Nr{o:Oper}(h:nL o=true):∀c,o.op≠.defer c:=by
 intro c e;unfold nL at h;rw[e]at h;cases h
def Uk(hF:mO F)(hQ:vo Q){o:Oper}(hnd:nL o=true){K K':Act->World->Prop}{ds:List Deferred}(hK:∀a w,K a w->a.defers=[])(hK':∀a w,K a w->K' (mr ds a) w){a:Act}{w:World}
  (h:o.wp P a w K Q):o.wpIn F n P (mr ds a) w K' Q':=by
 refine⟨fun f _=>hF.fn f,?_⟩;rw[fq _ _ _ (Nr hnd),Ih];unfold Oper.wp at h;have hb:=Du (P:=P) hQ hK (o:=o) (a:=a) (w:=w) h;generalize (execOp a.eval o).run P w=r at h;cases r with
 |ok x w'=>
  cases x with
  |value v=>simp only[cr,rv];exact hK' _ _ h
  |skip=>simp only[cr,rv];exact hK' _ _ h
  |defer d=>have:=hK _ _ h;rw[put_defers]at this;cases this
  |enter f args=>
   simp only[cr];refine⟨fun e=>absurd e hF.deep,hF.calls (Calls.mono h fun e w2 hr =>?_)⟩;cases e with
   |returned v=>simp only[rv];exact hK' _ _ hr
   |panicked c=>exact absurd hr (hQ.P4 _ _ _)
   |outgrown=>exact absurd hr hQ.out
  |row row args=>
   simp only[cr];refine⟨fun e=>absurd e hF.deep,hF.rows (Rows.mono h fun v w2 hr =>?_)⟩;simp only[rv];exact hK' _ _ hr
  |_=>exact h.elim
 |halt x w'=>
  cases x with
  |panic v=>exact absurd h (hQ.P4 _ _ _)
  |_=>exact h.elim
def xA(hQ:vo Q){ops:Array Oper}:∀(l:List Oper) (a:Act) (w:World),wpList P ops Q l a w->a.defers=[]
 |[],a,w,h=>hQ.bare _ _ _ h
 |o :: r,a,w,h=>by
  unfold wpList at h;split at h
  ·rcases h with h|⟨_,h⟩
   ·exact Du hQ (fun a w h=>xA hQ r a w h) h
   ·exact absurd h hQ.out
  ·have:=xA hQ r _ _ h;rwa [put_defers]at this
def Dv(hF:mO F)(hQ:vo Q){ds:List Deferred}(hE:∀a w,Q .normal a w->Q' .normal (mr ds a) w){ops:Array Oper}:∀(l:List Oper) (_:l.all nL=true) (a:Act) (w:World),wpList P ops Q l a w->wpListIn F n P ops Q' l (mr ds a) w
 |[],_,a,w,h=>hE a w h
 |o :: r,hl,a,w,h=>by
  simp only[List.all_cons,af]at hl;unfold wpListIn;unfold wpList at h;rw[Ii];split
  ·rename_i hw
   rw[if_pos hw]at h;rcases h with h|⟨_,h⟩
   ·exact Uk hF hQ hl.1 (fun a w h=>xA hQ r a w h) (fun a w h=>Dv hF hQ hE r hl.2 a w h) h
   ·exact absurd h hQ.out
  ·rename_i hw
   rw[if_neg hw]at h;refine⟨fun f _=>hF.fn f,?_⟩;rw[rv];exact Dv hF hQ hE r hl.2 _ _ h
def P5(hQ:vo Q){ops:Array Oper}{i:Nat}{K:Act->World->Prop}(hK:∀a w,K a w->a.defers=[]){a:Act}{w:World}(h:wpOp P ops Q i K a w):a.defers=[]:=by
 unfold wpOp at h;split at h
 ·exact hK _ _ h
 ·split at h
  ·rcases h with h|⟨_,h⟩
   ·exact Du hQ hK h
   ·exact absurd h hQ.out
  ·have:=hK _ _ h;rwa [put_defers]at this
def Ij(hQ:vo Q){ops:Array Oper}{md:fs}:∀(n:Nat) (L:Array Bool) (a:Act) (w:World),wpAny P md ops Q n L a w->a.defers=[]
 |0,_,_,_,h=>hQ.bare _ _ _ h.2
 |n+1,L,a,w,h=>by
  cases hr:Region.ready md ops L with
  |nil=>exact hQ.bare _ _ _ (h.1 hr)
  |cons i r=>exact P5 hQ (fun a w h=>Ij hQ n _ a w h) (h.2 i (by rw[hr];simp))
def U4(hF:mO F)(hQ:vo Q){ops:Array Oper}(hl:ops.toList.all nL=true){ds:List Deferred}{i:Nat}{K K':Act->World->Prop}(hK:∀a w,K a w->a.defers=[])(hK':∀a w,K a w->K' (mr ds a) w){a:Act}{w:World}
  (h:wpOp P ops Q i K a w):wpOpIn F n P ops Q' i K' (mr ds a) w:=by
 unfold wpOpIn;unfold wpOp at h;split
 ·rename_i hi;simp only[hi]at h;exact hK' _ _ h
 ·rename_i o hi
  simp only[hi]at h;have ho:nL o=true:=ca.1 hl o (by rw[<-Array.getElem?_toList]at hi;exact br hi);rw[Ii];split
  ·rename_i hw
   rw[if_pos hw]at h;rcases h with h|⟨_,h⟩
   ·exact Uk hF hQ ho hK hK' h
   ·exact absurd h hQ.out
  ·rename_i hw
   rw[if_neg hw]at h;refine⟨fun f _=>hF.fn f,?_⟩;rw[rv];exact hK' _ _ h
def P6(hF:mO F)(hQ:vo Q){ds:List Deferred}(hE:∀a w,Q .normal a w->Q' .normal (mr ds a) w){ops:Array Oper}(hl:ops.toList.all nL=true){md:fs}:∀(k:Nat) (L:Array Bool) (a:Act) (w:World),wpAny P md ops Q k L a w->wpAnyIn F n P md ops Q' k L (mr ds a) w
 |0,_,_,_,h=>⟨h.1,hE _ _ h.2⟩
 |k+1,L,a,w,h=>⟨fun e=>hE _ _ (h.1 e),fun i hi=>U4 hF hQ hl (fun a w h=>Ij hQ k _ a w h) (fun a w h=>P6 hF hQ hE hl k _ a w h) (h.2 i hi)⟩
end
def kz:Code->Bool
 |.skip=>true
 |.region _ ops _=>ops.toList.all nL
 |.seq a b=>kz a&&kz b
 |.cond _ a b=>kz a&&kz b
 |.block _ b=>kz b
 |.exit _=>true
 |.ret=>true
 |_=>false
section
variable{X:Ext}{P:Program}{cx:Cx}{F:Fence}{n:Nat}
def zW(ds:List Deferred)(Q:Exit->Act->World->Prop):Exit->Act->World->Prop:=fun e a w=>∃a',a=mr ds a'/\a'.defers=[]/\Q e a' w
def AW{O:aI}{K:Ex->St->VC}{W:List Nat}{st:St}{S:bI}:vo (jx cx X O K W st S) where
 bare e a w h:=by
  cases e with
  |normal=>obtain⟨_,_,_,_,_,k,_⟩:=h;exact k.defers
  |exit i=>obtain⟨_,_,_,_,_,k,_⟩:=h;exact k.defers
  |ret=>obtain⟨_,_,_,_,_,k,_⟩:=h;exact k.defers
  |goto l=>exact h.elim
  |panic c=>exact h.elim
  |outgrown=>exact h.elim
 P4 c a w h:=h.elim
 out h:=let⟨_,_,hh⟩:=h;hh.elim
def jx.on{O:aI}{K:Ex->St->VC}{W:List Nat}{st:St}{S:bI}{ds:List Deferred}{e:Exit}{a:Act}{w:World}(h:jx cx X O K W st S e a w):zW ds (jx cx X O K W st S) e (mr ds a) w:=⟨a,rfl,AW.bare _ _ _ h,h⟩
def Wn(hok:ln P cx X)(hF:mO F)(ds:List Deferred){O:aI}{id:Nat}{ops:Array Oper}{draw:Bool}(hl:ops.toList.all nL=true){st:St}{loc:Nat->Loc}{w:World}{a:Act}{K:Ex->St->VC}(hA:fO cx (aA O st loc w) st a)(g:Good cx.eT X (aA O st loc w))(hO:eS O w)
  (h:(yk cx ops draw st (K .normal)).holds):(Code.region id ops draw).wpIn F n P (zW ds (jx cx X O K (dS ops.toList) st (aA O st loc w))) (mr ds a) w:=by
 have hW:∀(j:Nat) (oj:Oper) (d:Nat),ops[j]?=some oj->oj.dst=some d->d∈dS ops.toList:=by
  intro j oj d hj hd;exact eh.2 ⟨oj,by rw[<-Array.getElem?_toList]at hj;exact br hj,hd⟩
 have hq:∀st' loc' a' w',(K .normal st').holds->Good cx.eT X (aA O st' loc' w')->Tr (aA O st loc w) (aA O st' loc' w')->fO cx (aA O st' loc' w') st' a'->nC (dS ops.toList) st st'->
   jx cx X O K (dS ops.toList) st (aA O st loc w) .normal a' w':=fun st' loc' a' w' h1 h2 h3 h4 h5=>⟨st',loc',h1,h2,h3,h4,h5⟩
 unfold yk at h;cases draw with
 |false=>
  refine wpIn_region_list (Dv hF AW (fun a w h=>h.on) _ hl _ _ ?_);exact yP hok hW ops.toList (fun o ho d hd=>eh.2 ⟨o,ho,hd⟩) hA g hO h hq
 |true=>
  split at h
  ·rename_i e;cases e
  ·rename_i e
   split at h
   ·rename_i hreg
    rw[KU]at h;refine wpIn_region_any hok.mixed (P6 hF AW (fun a w h=>h.on) hl _ _ _ _ (C9 (loud:=ki cx ops.toList) _ _ _ _ (aA O st loc {w with drawn:=w.drawn+1}).A ?_));have hdrew:Below w.heap.size w {w with drawn:=w.drawn+1}:=⟨rfl,rfl,ak _,fun _ _=>rfl⟩;obtain⟨tr,g'⟩:=o3 (S:=aA O st loc w) (S':=aA O st loc {w with drawn:=w.drawn+1}) g rfl rfl rfl rfl hdrew;refine yQ hok hW hreg (fun c a w h=>h) ops.size _ ?_ ⟨hA.size,hA.defers,hA.env.tr tr⟩ g' (hO.tr (ak _)) h ?_
    ·intro j o ho hj
     rw[ei,Array.getElem?_replicate]at hj;split at hj <;> simp at hj
    ·intro st' loc' a' w' h1 h2 h3 h4 h5
     obtain⟨st2,loc2,k1,k2,k3,k4,k5⟩:=fX.W0 (K:=K .normal) (f:=canon st.next (dS ops.toList)) (W:=dS ops.toList) hA (fun st'=>by
      rcases BL st.next (dS ops.toList) st' with e|⟨r,q,k1,k2⟩
      ·exact .inl e
      ·exact .inr ⟨r,q,k1,k2⟩) (⟨st',loc',h1,h2,tr.trans h3,h4,h5⟩:fX cx X O (fun st'=>K .normal (canon st.next (dS ops.toList) st')) (dS ops.toList) st (aA O st loc w) a' w')
     exact hq st2 loc2 a' w' k1 k2 k3 k4 k5
   ·exact h.elim
def zW.mono{ds:List Deferred}{Q Q':Exit->Act->World->Prop}(h:∀e a w,Q e a w->Q' e a w){e:Exit}{a:Act}{w:World}(hq:zW ds Q e a w):zW ds Q' e a w:=let⟨a',k1,k2,k3⟩:=hq;⟨a',k1,k2,h _ _ _ k3⟩
def xB(hok:ln P cx X)(hF:mO F)(ds:List Deferred){O:aI}:∀(c:Code) (cur:Nat) (_:kz c=true) {st:St} {loc:Nat->Loc} {w:World} {a:Act} {K:Ex->St->VC},
  fO cx (aA O st loc w) st a->Good cx.eT X (aA O st loc w)->eS O w->(vc cx [] c cur st K).holds->c.wpIn F n P (zW ds (jx cx X O K (writes [] cur c) st (aA O st loc w))) (mr ds a) w:=by
 intro c;induction c with
 |skip=>intro cur _ st loc w a K hA g hO h;exact wpIn_skip (jx.on ⟨st,loc,h,g,Tr.refl _,hA,fun _ _ _ _ h=>h⟩)
 |region id ops draw=>
  intro cur hs st loc w a K hA g hO h;exact Wn hok hF ds hs hA g hO h
 |seq c1 c2 ih1 ih2=>
  intro cur hs st loc w a K hA g hO h;simp only[kz,af]at hs;refine wpIn_seq ?_;refine wpIn_mono (ih1 cur hs.1 hA g hO h) ?_;rintro e a0 w' ⟨a',rfl,hb,hq⟩;have key:∀e,e≠.normal->jx cx X O (fun e st'=>match e with
   |.normal=>vc cx [] c2 cur st' K
   |e=>K e st') (writes [] cur c1) st (aA O st loc w) e a' w'->zW ds (jx cx X O K (writes [] cur (.seq c1 c2)) st (aA O st loc w)) e (mr ds a') w':=by
   intro e he hq;refine jx.on (jx.mono (W:=writes [] cur c1) (st1:=st) (S1:=aA O st loc w) ?_ (Tr.refl _) (fun _ _ _ _ h=>h) (fun n hn=>au.2 (.inl hn)));cases e with
   |normal=>exact absurd rfl he
   |exit i=>exact hq
   |ret=>exact hq
   |goto l=>exact hq.elim
   |panic c=>exact hq.elim
   |outgrown=>exact hq.elim
  cases e with
  |normal=>
   obtain⟨st',loc',k1,k2,k3,k4,k5⟩:=hq;refine wpIn_mono (ih2 cur hs.2 k4 k2 (hO.tr k3.size) k1) ?_;intro e a2 w2 hq2;exact hq2.mono fun e a w hq=>hq.mono k3 (W':=writes [] cur (.seq c1 c2)) (fun hm t ht=>k5 (fun h=>hm (au.2 (.inl h))) t fun hm=>ht (au.2 (.inl hm))) (fun n hn=>au.2 (.inr hn))
  |exit i=>exact key _ (by simp) hq
  |ret=>exact key _ (by simp) hq
  |goto l=>exact hq.elim
  |panic c=>exact hq.elim
  |outgrown=>exact hq.elim
 |cond x c1 c2 ih1 ih2=>
  intro cur hs st loc w a K hA g hO h;simp only[kz,af]at hs;have hx:=bM hA.env x;have h1:∀{K},(vc cx [] c1 cur st K).holds->c1.wpIn F n P (zW ds (jx cx X O K (writes [] cur (.cond x c1 c2)) st (aA O st loc w))) (mr ds a) w:=fun h=>
   wpIn_mono (ih1 cur hs.1 hA g hO h) fun e a' w' hq=>hq.mono fun e a w hq=>hq.mono (Tr.refl _) (fun _ _ _ _ h=>h) (fun n hn=>au.2 (.inl hn))
  have h2:∀{K},(vc cx [] c2 cur st K).holds->c2.wpIn F n P (zW ds (jx cx X O K (writes [] cur (.cond x c1 c2)) st (aA O st loc w))) (mr ds a) w:=fun h=>
   wpIn_mono (ih2 cur hs.2 hA g hO h) fun e a' w' hq=>hq.mono fun e a w hq=>hq.mono (Tr.refl _) (fun _ _ _ _ h=>h) (fun n hn=>au.2 (.inr hn))
  have hev:(mr ds a).eval x=a.eval x:=by rw[Ih]
  have h':(match eA st.env x with
    |.lit true=>vc cx [] c1 cur st K
    |.lit false=>vc cx [] c2 cur st K
    |.d .bool g =>.ite g (vc cx [] c1 cur st K) (vc cx [] c2 cur st K)
    |_ =>.ff).holds:=h
  split at h'
  ·rename_i hl;rw[hl]at hx;exact wpIn_cond_true (hev.trans hx) (h1 h')
  ·rename_i hl;rw[hl]at hx;exact wpIn_cond_false (hev.trans hx) (h2 h')
  ·rename_i b hl
   rw[hl]at hx;have hx:=(eP (eT:=cx.eT) (S:=aA O st loc w) (b:=b)).1 hx;cases b
   ·exact wpIn_cond_false (hev.trans hx) (h2 (h'.2 rfl))
   ·exact wpIn_cond_true (hev.trans hx) (h1 (h'.1 rfl))
  ·exact h'.elim
 |block id b ih=>
  intro cur hs st loc w a K hA g hO h;refine wpIn_block ?_;have h':(vc cx [] b id st fun e st'=>match e with
   |.exit i=>match bp i id with
    |true=>K .normal st'
    |false=>K (.exit i) st'
   |e=>K e st').holds:=h
  refine wpIn_mono (ih id hs hA g hO h') ?_;rintro e a0 w' ⟨a',rfl,hb,hq⟩;cases e with
  |normal=>exact jx.on hq
  |exit i=>
   obtain⟨st',loc',k1,k2,k3,k4,k5⟩:=hq;simp only at k1;show if i=id then _ else _
   split at k1
   ·rename_i hi
    rw[if_pos (bz hi)];exact jx.on ⟨st',loc',k1,k2,k3,k4,k5⟩
   ·rename_i hi
    rw[if_neg (fun e=>by rw[e,Nat.beq_refl]at hi;cases hi)];exact jx.on ⟨st',loc',k1,k2,k3,k4,k5⟩
  |ret=>exact jx.on hq
  |goto l=>exact hq.elim
  |panic c=>exact hq.elim
  |outgrown=>exact hq.elim
 |exit id=>intro cur _ st loc w a K hA g hO h;exact wpIn_exit (jx.on ⟨st,loc,h,g,Tr.refl _,hA,fun _ _ _ _ h=>h⟩)
 |ret=>intro cur _ st loc w a K hA g hO h;exact wpIn_ret (jx.on ⟨st,loc,h,g,Tr.refl _,hA,fun _ _ _ _ h=>h⟩)
 |_=>intro cur hs;cases hs
end
structure r9 (B:Nat) (W W':World):Prop where
 os:W'.os=W.os
 output:W'.output=W.output
 size:W.heap.size<=W'.heap.size
 below:∀k,k<B->k<W.heap.size->W'.heap[k]?=W.heap[k]?
 cells:∀(k:Nat) (o:Obj),W.heap[k]?=some o->o.isCells=true->W'.heap[k]?=W.heap[k]?
def r9.of{B:Nat}{W W':World}{row:Option Nat}(hg:W.grownBy W' row)(hr:∀r,row=some r->B<=r/\∃o:Obj,W.heap[r]?=some o/\o.isCells=false):r9 B W W':=
 ⟨hg.os,hg.output,hg.size,fun k h1 h2=>hg.block k h2 (fun e=>by have:=(hr k e.symm).1;omega),fun k o hk hc=>grownBy_keeps_cells hg (fun r e=>(hr r e).2) hk hc⟩
def r9.cell{B:Nat}{W W':World}(h:r9 B W W'){b o:Nat}{v:Value}(hc:W.cell? ⟨b,o,none⟩=some v):W'.cell? ⟨b,o,none⟩=some v:=by
 obtain⟨ob,ho,hcs⟩:=cells_of_cell hc;exact(World.cell?_of_block (h.cells _ ob ho hcs)).trans hc
def plainO:OC->Bool
 |.cells _ _=>true
 |.aV _ _=>true
 |.arr _ _=>true
 |.tok _ _=>true
 |.ext k _ _=>bp k 0 || bp k 2
 |.iter _ _ _=>false
def og:List (Nat×OC)->Bool
 |[]=>true
 |(_,oc) :: r=>plainO oc&&og r
def mE:∀{l:List (Nat×OC)},og l=true->∀{n:Nat} {oc:OC},look l n=some oc->plainO oc=true
 |[],_,_,_,h=>by simp[look]at h
 |(m,x) :: r,hp,n,oc,h=>by
  simp only[og,af]at hp;rw[cC]at h;split at h
  ·cases h;exact hp.1
  ·exact mE hp.2 h
section
variable{eT:TypeId}{X:Ext}
def CR.l9{S S':bI}(hob:S'.ob=S.ob)(hloc:S'.loc=S.loc)(hn:S'.next=S.next)(hc:∀b o v,¬S.A b o->S.w.cell? ⟨b,o,none⟩=some v->S'.w.cell? ⟨b,o,none⟩=some v/\¬S'.A b o)
  {c:C}{v:Value}(h:CR eT S c v):CR eT S' c v:=by
 cases c with
 |d t x=>exact VR.frame h hc
 |app t xs n=>obtain⟨h1,h2,h3⟩:=h;exact⟨VR.frame h1 hc,by rw[hn];exact h2,by rw[hob,hloc];exact h3⟩
 |oE t x=>obtain⟨b,o,us,rfl,h1,h2⟩:=h;exact⟨b,o,us,rfl,h1.frame hc,h2.frame hc⟩
 |fn f caps=>simp only[CR,bI.fixed,hob,hloc,hn]at h ⊢;exact h
 |_=>simp only[CR,hob,hloc,hn]at h ⊢ <;> exact h
def eC.l9{S S':bI}(hob:S'.ob=S.ob)(hloc:S'.loc=S.loc)(hn:S'.next=S.next)(hc:∀b o v,¬S.A b o->S.w.cell? ⟨b,o,none⟩=some v->S'.w.cell? ⟨b,o,none⟩=some v/\¬S'.A b o)
  {cs:List C}{vs:List Value}(h:eC eT S cs vs):eC eT S' cs vs:=by
 induction h with
 |nil=>exact .nil
 |cons h1 h2 _ ih=>exact .cons (h1.l9 hob hloc hn hc) h2 ih
def iv.l9{S S':bI}(hob:S'.ob=S.ob)(hloc:S'.loc=S.loc)(hn:S'.next=S.next)(hc:∀b o v,¬S.A b o->S.w.cell? ⟨b,o,none⟩=some v->S'.w.cell? ⟨b,o,none⟩=some v/\¬S'.A b o)
  {x:cP}{v:Value}(h:iv eT S x v):iv eT S' x v:=by
 cases x with
 |one c=>exact CR.l9 hob hloc hn hc h
 |agg cs=>obtain⟨vs,rfl,h1⟩:=h;exact⟨vs,rfl,h1.l9 hob hloc hn hc⟩
def cR.l9{S S':bI}(hob:S'.ob=S.ob)(hloc:S'.loc=S.loc)(hn:S'.next=S.next)(hc:∀b o v,¬S.A b o->S.w.cell? ⟨b,o,none⟩=some v->S'.w.cell? ⟨b,o,none⟩=some v/\¬S'.A b o)
  {xs:List cP}{vs:List Value}(h:cR eT S xs vs):cR eT S' xs vs:=by
 induction h with
 |nil=>exact .nil
 |cons h1 _ ih=>exact .cons (h1.l9 hob hloc hn hc) ih
def dI.l9{S S':bI}(hob:S'.ob=S.ob)(hloc:S'.loc=S.loc)(hn:S'.next=S.next)(hc:∀b o v,¬S.A b o->S.w.cell? ⟨b,o,none⟩=some v->S'.w.cell? ⟨b,o,none⟩=some v/\¬S'.A b o)
  {x:SV}{v:Value}(h:dI eT S x v):dI eT S' x v:=by
 cases x with
 |s x=>exact iv.l9 hob hloc hn hc h
 |mP xs=>obtain⟨vs,rfl,h1⟩:=h;exact⟨vs,rfl,h1.l9 hob hloc hn hc⟩
def OR.l9{S S':bI}(hob:S'.ob=S.ob)(hloc:S'.loc=S.loc)(hn:S'.next=S.next)(hc:∀b o v,¬S.A b o->S.w.cell? ⟨b,o,none⟩=some v->S'.w.cell? ⟨b,o,none⟩=some v/\¬S'.A b o)
  {l:Loc}{oc:OC}(hb:∀b,b∈l.bs->S'.w.heap[b]?=S.w.heap[b]?)(ho:OR eT X S l oc):OR eT X S' l oc:=by
 have he:∀{t:Ty} {xs:List (D t)} {vs:Array Value},kD eT S t xs vs->kD eT S' t xs vs:=fun h i y hy=>let⟨us,h1,h2⟩:=h i y hy;⟨us,h1.frame hc,h2⟩
 cases oc with
 |cells T cs=>
  obtain⟨b,vs,h1,h2,h3,h4⟩:=ho;exact⟨b,vs,h1,h2,by rw[hb b (by simp[h2])];exact h3,h4.l9 hob hloc hn hc⟩
 |aV t xs=>
  rcases ho with ho|⟨b,vs,T,cap,h1,h2,h3,h4,h5,h6,h7⟩
  ·exact .inl ho
  ·exact .inr ⟨b,vs,T,cap,h1,h2,by rw[hb b (by simp[h2])];exact h3,h4,h5,h6,he h7⟩
 |arr t xs=>
  obtain⟨b,vs,T,h1,h2,h3,h4,h5⟩:=ho;exact⟨b,vs,T,h1,h2,by rw[hb b (by simp[h2])];exact h3,h4,he h5⟩
 |tok t xs=>
  rcases ho with ho|⟨b,vs,T,cap,h1,h2,h3,h4,h5,h6,h7⟩
  ·exact .inl ho
  ·exact .inr ⟨b,vs,T,cap,h1,h2,by rw[hb b (by simp[h2])];exact h3,h4,h5,h6,he h7⟩
 |ext k t x=>exact X.frame ho hb
 |iter cs seen cl=>
  obtain⟨b,m,c,sn,h1,h2,h3,h4,h5,h6⟩:=ho;exact⟨b,m,c,sn,h1,h2,by rw[hb b (by simp[h2])];exact h3,h4.l9 hob hloc hn hc,h5,h6⟩
def OR.P7{S:bI}{l:Loc}{oc:OC}(hp:plainO oc=true)(ho:OR eT X S l oc):∀b∈l.bs,∃vs T fz,S.w.heap[b]?=some (.cells vs T fz):=by
 intro b hb;cases oc with
 |cells T cs=>obtain⟨b',vs,_,h2,h3,_⟩:=ho;rw[h2]at hb;simp at hb;subst hb;exact⟨_,_,_,h3⟩
 |aV t xs=>
  rcases ho with⟨_,_,h⟩|⟨b',vs,T,cap,_,h2,h3,_⟩
  ·rw[h]at hb;simp at hb
  ·rw[h2]at hb;simp at hb;subst hb;exact⟨_,_,_,h3⟩
 |arr t xs=>obtain⟨b',vs,T,_,h2,h3,_⟩:=ho;rw[h2]at hb;simp at hb;subst hb;exact⟨_,_,_,h3⟩
 |tok t xs=>
  rcases ho with⟨_,_,h⟩|⟨b',vs,T,cap,_,h2,h3,_⟩
  ·rw[h]at hb;simp at hb
  ·rw[h2]at hb;simp at hb;subst hb;exact⟨_,_,_,h3⟩
 |ext k t x=>
  simp only[plainO,bq]at hp;rcases hp with hp|hp
  ·have:=bz hp
   subst this;have hd:kC t x l S.w:=X.deep.1 ho;cases t with
   |slice e=>
    obtain⟨s,_,top,hs,_,⟨_,_,_,h⟩|⟨b',vs,T,cap,cs,_,h2,h3,_,_,_,h4⟩⟩:=hd
    ·rw[h]at hb;simp at hb
    ·rw[h2]at hb
     rcases ag.1 hb with rfl|hb
     ·exact⟨_,_,_,h3⟩
     ·obtain⟨c,hc,hcb⟩:=eh.1 hb
      simp at hcb;subst hcb;obtain⟨i,hi⟩:=List.getElem?_of_mem hc;obtain⟨_,vs',T',h5⟩:=h4.yG i b hi;exact⟨_,_,_,h5⟩
   |_=>exact hd.elim
  ·have:=bz hp
   subst this;obtain⟨rfl,b',p,v,h⟩:=X.Oi.1 ho;rw[h.bs]at hb;rcases ag.1 hb with rfl|hb
   ·exact⟨_,_,_,h.heap⟩
   ·rcases h.row.2 with⟨rfl,_⟩|⟨g,cap,cur,rfl,_,hg,_⟩
    ·simp[ft]at hb
    ·simp[ft]at hb;subst hb;exact⟨_,_,_,hg⟩
 |iter cs seen cl=>cases hp
def xC{S:bI}{W':World}{B:Nat}(g:Good eT X S)(hb:r9 B S.w W')(hp:∀n oc,S.ob n=some oc->plainO oc=true)(hg:∀b∈X.DP,b<B):Good eT X {S with w:=W'} where
 obj n oc h:=⟨(g.obj n oc h).1,OR.l9 (S:=S) (S':={S with w:=W'}) rfl rfl rfl (fun b o v ha hc=>⟨hb.cell hc,ha⟩) (fun b hbm=>let⟨_,_,_,e⟩:=(g.obj n oc h).2.P7 (hp n oc h) b hbm;hb.cells b _ e rfl) (g.obj n oc h).2⟩
 apart:=g.apart
 out:=g.out
 kT:=⟨X.Bm g.kT.1 fun b hbm=>hb.below b (hg b hbm) (X.Gl g.kT.1 b hbm),g.kT.2⟩
def Dw{S0 S:bI}{W':World}{B:Nat}(t:Tr S0 S)(hb:r9 B S.w W')(hB:S0.w.heap.size<=B):Tr S0 {S with w:=W'} where
 O:=t.O
 next:=t.next
 os:=hb.os.trans t.os
 output:=hb.output.trans t.output
 size:=b5 t.size hb.size
 own:=t.own
 cell b o v ha hc:=let⟨h1,h2⟩:=t.cell b o v ha hc;⟨hb.cell h1,h2⟩
 block b hlt ho:=(hb.below b (de hlt hB) (de hlt t.size)).trans (t.block b hlt ho)
 loc:=t.loc
 kind:=t.kind
def AX{S:bI}{W':World}{B:Nat}{env:List (Nat×SV)}{a:Act}(h:gA eT S env a)(hb:r9 B S.w W'):gA eT {S with w:=W'} env a:=
 fun t sv ht=>dI.l9 (S:=S) (S':={S with w:=W'}) rfl rfl rfl (fun b o v ha hc=>⟨hb.cell hc,ha⟩) (h t sv ht)
def EX{S:bI}(g:Good eT X S)(hp:∀n oc,S.ob n=some oc->plainO oc=true){k:Nat}{o:Obj}(hk:S.w.heap[k]?=some o)(ho:o.isCells=false):¬S.owns k:=by
 rintro⟨n,oc,h1,h2⟩;obtain⟨vs,T,fz,e⟩:=(g.obj n oc h1).2.P7 (hp n oc h1) k h2;rw[hk]at e;cases e;cases ho
end
def vp:List Ob->List Nat->List Nat->Bool
 |o :: os,n0 :: ns0,n :: ns=>(match ld o o with|true=>bp n n0|false=>true)&&vp os ns0 ns
 |_,_,_=>true
def EY:∀{aO:List Ob} {ν0 ν:List Nat} {i n0 n:Nat} {o:Ob},vp aO ν0 ν=true->aO[i]?=some o->ld o o=true->ν0[i]?=some n0->ν[i]?=some n->n=n0
 |[],_,_,_,_,_,_,_,h,_,_,_=>by simp at h
 |_ :: _,[],_,_,_,_,_,_,_,_,h,_=>by simp at h
 |_ :: _,_ :: _,[],_,_,_,_,_,_,_,_,h=>by simp at h
 |a :: os,m0 :: ns0,m :: ns,0,n0,n,o,h,h1,h2,h3,h4=>by
  simp at h1 h3 h4;subst h1;subst h3;subst h4;simp only[vp,h2,af]at h;exact bz h.1
 |a :: os,m0 :: ns0,m :: ns,i+1,n0,n,o,h,h1,h2,h3,h4=>by
  simp only[vp,af]at h;exact EY h.2 (by simpa using h1) h2 (by simpa using h3) (by simpa using h4)
def Cv(an:jo)(ν0:List Nat)(st st':St)(more:an.X->Prop):VC:=
 match tN st' an with
 |some ν=>match nodupB ν&&(tO st' an ν an.refs&&vp an.aO ν0 ν),eD false st'.aF an.aO ν an.aO ν with
  |true,some y =>.leaf (G0 (yi st' an y an.refs++iR an.aO y st'.aF an.aO ν++[∃x',an.inv x'/\more x'/\mh st' (an.bK x')/\mi st' (an.aF x'++iF st an.gO)/\(oT ν (pg an st x')=true/\y=an.pd x')]))
  |_,_ =>.ff
 |none =>.ff
def Cw{an:jo}{ν0:List Nat}{st st':St}{more:an.X->Prop}(h:(Cv an ν0 st st' more).holds):∃x,an.inv x/\more x/\∃ν,G7 an st st' x ν/\vp an.aO ν0 ν=true:=by
 unfold Cv at h;split at h
 ·rename_i ν _
  split at h
  ·rename_i y hc hy
   simp only[af]at hc;have hall:=uJ h;obtain⟨x,h1,h2,h3,h4,h5,h6⟩:=hall (∃x',an.inv x'/\more x'/\mh st' (an.bK x')/\mi st' (an.aF x'++iF st an.gO)/\(oT ν (pg an st x')=true/\y=an.pd x')) (ej _ (db.2 rfl));subst h6;obtain⟨k1,_⟩:=jh.1 hall;obtain⟨k1,k2⟩:=jh.1 k1;exact⟨x,h1,h2,ν,⟨hc.1,hc.2.1,hy,k1,k2,h3,h4,h5⟩,hc.2.2⟩
  ·exact h.elim
 ·exact h.elim
section
variable{X:Ext}{cx:Cx}
end
structure lF:Type 1 where
 inv:List Nat->Prop
 keep:List Nat
 gO:List Nat:=[]
 gP:List Nat:=[]
 aO:List Ob:=[]
 refs:List (Nat×Nat):=[]
 pd:List Nat->PD aO:=fun _=>Mi aO
def lF.xD(r:lF):jo:={X:=List Nat,inv:=r.inv,cB:=fun _=>0,bK:=fun _=>[],keep:=r.keep,gO:=r.gO,aO:=r.aO,refs:=r.refs,pd:=r.pd}
def Wo(r:lF)(ν0:List Nat)(st:St):List Nat:=mH r.aO r.aO ν0 st.next
def gH(r:lF)(ν0:List Nat)(st:St)(pre:List Nat):St:=eX r.xD st (Wo r ν0 st) pre
def qJ(r:lF)(ν0:List Nat)(st:St)(pre:List Nat):Bool:=ph r.xD st [] pre&&(og (gH r ν0 st pre).aF&&(nodupB (Wo r ν0 st)&&jV (st.next+r.aO.length) (Wo r ν0 st)))
def eG{t:Ty}(xs:List (D t))(k i:Nat):List (D t):=(xs.drop (i*k)).take k
def fK(n k:Nat):Nat:=(n+k-1) / k
def kr(a:Option Addr)(n k i:Nat):Value:=.slice (a.map fun p=>{p with off:=p.off+i*k}) (min k (n-i*k)) (min k (n-i*k))
def yy(ps:List Tmp)(asg:Code):Option (Nat×Nat):=
 match ps,asg with
 |[p],.region _ ops false=>match ops.toList with
  |[o]=>match o.dst,o.op,o.guard with
   |some d,.assign (.tmp q),none=>match bp q p with
    |true=>some (p,d)
    |false=>none
   |_,_,_=>none
  |_=>none
 |_,_=>none
def Ul(st:St)(r:lF):lF:={r with keep:=(BN st.env r.keep).filter (fun t=>qA [t] r.refs),gO:=match r.gO with
 |[]=>qz (r.gP++(match tN st r.xD with|some l=>l|none=>[])) st.aF
 |l=>l}
@[reducible] def Li:Ty:=.slice (.int .u8)
def Gi(an:lF)(ν0:List Nat)(st1:St)(bs:List (D (.int .u8)))(kN p d:Nat)(pre:List Nat)(i:Nat):St:=
 {gH an ν0 st1 pre with env:=(d,.s (.one (.d Li (eG bs kN i)))) :: (p,.s (.one (.d Li (eG bs kN i)))) :: (gH an ν0 st1 pre).env}
def rK(an:lF)(ν0:List Nat)(st1:St)(K:Ex->St->VC)(pre:List Nat)(i:Nat):Ex->St->VC:=fun e st'=>match e with
 |.normal=>Cv an.xD ν0 st1 {st' with env:=(gH an ν0 st1 pre).env} fun x=>x=pre++[i]
 |.ret=>match og st'.aF with
  |true =>.imp (pre=ba i) (K .ret {st' with env:=(gH an ν0 st1 pre).env})
  |false =>.ff
 |.exit _ =>.ff
def Um(cx:Cx)(an:lF)(st1:St)(bs:List (D (.int .u8)))(k:Int)(p d:Nat)(body:Code)(K:Ex->St->VC):VC:=
 match tN st1 an.xD with
 |some ν0 =>.both (.leaf (1<=k/\k<=1000000000/\bs.length<=1000000000))
  (.both (Cv an.xD ν0 st1 st1 fun x=>x=[]) (.both (.all (List Nat) fun pre =>.imp (an.inv pre) (match qJ an ν0 st1 pre with
    |true =>.all Nat fun i =>.imp (pre.length<fK bs.length k.toNat)
     (vc cx [] body 0 (Gi an ν0 st1 bs k.toNat p d pre i) (rK an ν0 st1 K pre i))
    |false =>.ff))
   (.imp (an.inv (ba (fK bs.length k.toNat))) (K .normal (gH an ν0 st1 (ba (fK bs.length k.toNat)))))))
 |none =>.ff
def SR(cx:Cx)(it:FuncId)(r:St->lF)(g:Operand)(p d:Nat)(body:Code)(st:St)(K:Ex->St->VC):VC:=
 match eA st.env g with
 |.fn f [n1,n2]=>match bp f it&&!bp n1 n2,look st.aF n1,look st.aF n2 with
  |true,some (.cells _ [.d (.slice (.int .u8)) bs]),some (.cells _ [.d (.int .i64) k])=>
   Um cx (Ul (bC (bC st n1) n2) (r (bC (bC st n1) n2))) (bC (bC st n1) n2) bs k p d body K
  |_,_,_ =>.ff
 |_ =>.ff
def ue(P:Program)(it:FuncId):Prop:=
 ∀(b1 b2:Nat) (a:Option Addr) (len cap k:Nat) (w:World),1<=k->k<=1000000000->len<=1000000000->len<=cap->(0<len->∃b o,a=some ⟨b,o,none⟩)->b1<w.heap.size->b2<w.heap.size->w.cell? ⟨b1,0,none⟩=some (.slice a len cap)->w.cell? ⟨b2,0,none⟩=some (.int .i64 k)->
  SeqStopsK bd 2 P it #[.pointer (some ⟨b1,0,none⟩),.pointer (some ⟨b2,0,none⟩)] (fun i:Nat =>#[kr a len k i])
   (fun A B=>B.cell? ⟨b1,0,none⟩=A.cell? ⟨b1,0,none⟩/\B.cell? ⟨b2,0,none⟩=A.cell? ⟨b2,0,none⟩) (fun xs=>xs=ba (fK len k)) (fun pre=>∃j,pre=ba j) (fK len k) w
def rj{t:Ty}(xs:List (D t))(k i:Nat):(eG xs k i).length=min k (xs.length-i*k):=by simp[eG]
section
variable{eT:TypeId}{X:Ext}
def SS{bs:List (D (.int .u8))}{A:aI}{w:World}{v:Value}(h:VR eT Li bs A w v) :
  ∃a cap,v=.slice a bs.length cap/\bs.length<=cap/\(0<bs.length->∃b o,a=some ⟨b,o,none⟩)/\∀k i,VR eT Li (eG bs k i) A w (kr a bs.length k i):=by
 obtain⟨v',e,hbig,h⟩:=h.one rfl;cases e;rcases h with⟨rfl,a,c,rfl⟩|⟨b,o,cap,rfl,hc,h⟩
 ·refine⟨a,c,rfl,ar _,fun h=>absurd h (Nat.lt_irrefl _),fun k i=>VR.cJ rfl ⟨_,rfl,by simp[eG],.inl ⟨by simp[eG],a.map fun p=>{p with off:=p.off+i*k},0,by simp[kr]⟩⟩⟩
 ·refine⟨some ⟨b,o,none⟩,cap,rfl,hc,fun _=>⟨b,o,rfl⟩,fun k i=>VR.cJ rfl ⟨_,rfl,by rw[rj];omega,.inr ⟨b,o+i*k,min k (bs.length-i*k),by rw[rj];rfl,by rw[rj];exact ak _,fun j y hj =>?_⟩⟩⟩
  have hj':bs[i*k+j]?=some y:=by
   unfold eG at hj;rw[List.getElem?_take]at hj;split at hj
   ·rwa [List.getElem?_drop]at hj
   ·cases hj
  obtain⟨us,h1,h2⟩:=h _ y hj';refine⟨us,h1,fun m u hm =>?_⟩;have:=h2 m u hm;rw[show o+i*k+j*(Ty.int dm).size+m=o+(i*k+j)*(Ty.int dm).size+m by simp[Ty.size];omega];exact this
end
section
variable{P:Program}{F:Fence}{n:Nat}
def P8{K:Act->World->Prop}{id:Nat}{ops:Array Oper}{o:Oper}{d q:Nat}(ho:ops.toList=[o])(hd:o.dst=some d)(hop:o.op=.assign (.tmp q))(hg:o.guard=none){a:Act}{w:World}(hF:∀f,F.fn f)
  (h:K (a.put (some d) (a.eval (.tmp q))) w):(Code.region id ops false).wpIn F n P (Exit.then K (fun _ _ _=>False)) a w:=by
 refine wpIn_region_list ?_;rw[ho];unfold wpListIn;rw[if_pos (by simp[Region.wanted,hg])];refine⟨fun f _=>hF f,?_⟩;rw[fq _ _ _ (by simp[hop])];have e:(execOp a.eval o).run P w=.ok (.value (a.eval (.tmp q))) w:=by unfold execOp;rw[hop];rfl
 rw[e];simp only[cr,hd];exact h
end
def J9{ps:List Tmp}{asg:Code}{p d:Nat}(h:yy ps asg=some (p,d)):ps=[p]/\∃id ops o,asg=.region id ops false/\ops.toList=[o]/\o.dst=some d/\o.op=.assign (.tmp p)/\o.guard=none:=by
 unfold yy at h;split at h
 ·split at h
  ·split at h
   ·split at h
    ·cases h
     rename_i hb _;have:=bz hb;subst this;exact⟨rfl,_,_,_,rfl,by assumption,by assumption,by assumption,by assumption⟩
    ·cases h
   ·cases h
  ·cases h
 ·cases h
def Ns(D:Nat):Deferred:={target:=.collected D,args:=#[]}
def yz{a:Act}(h:a.defers=[]):mr [] a=a:=by cases a;simp only at h;subst h;rfl
section
variable{X:Ext}{P:Program}{cx:Cx}
structure Nt (cx:Cx) (X:Ext) (O:aI) (K:St->VC) (S:bI) (a a':Act) (w':World) (D:Nat) (st':St) (loc':Nat->Loc):Prop where
 act:a'=mr [Ns D] a
 vc:(K st').holds
 fP:Good cx.eT X (aA O st' loc' w')
 tr:Tr S (aA O st' loc' w')
 env:gA cx.eT (aA O st' loc' w') st'.env a
 Xi:S.w.heap.size<=D
 mark:w'.heap[D]?=some (.deferred (some []))
 plain:og st'.aF=true
def QR(cx:Cx)(X:Ext)(O:aI)(K:Ex->St->VC)(S:bI)(a:Act):Exit->Act->World->Prop
 |.normal,a',w'=>∃D st' loc',Nt cx X O (K .normal) S a a' w' D st' loc'
 |.ret,a',w'=>∃D st' loc',Nt cx X O (K .ret) S a a' w' D st' loc'
 |_,_,_=>False
def pD{st:St}:∀{l:List Nat} {n:Nat} {v:SV},n∈l->look st.env n=some v->look (nD st l) n=some v
 |[],_,_,h,_=>by simp at h
 |t :: r,n,v,h,hv=>by
  simp only[nD];by_cases e:t=n
  ·subst e
   rw[hv];simp only[cC,if_true]
  ·have hn:n∈r:=(ag.1 h).resolve_left fun h=>e h.symm
   cases look st.env t with
   |none=>exact pD hn hv
   |some u=>simp only[cC,if_neg e];exact pD hn hv
def SU{an:jo}{st:St}{us:List Nat}{x:an.X}(hs:an.bK x=[])(hnr:qA an.keep an.refs=true){n:Nat}(hn:n∈an.keep){v:SV}(h:look st.env n=some v):look (eX an st us x).env n=some v:=by
 simp only[eX,yj,eN,hs];split
 ·rename_i u hu
  obtain⟨k,hk,_⟩:=qe hu;exact absurd hn (uQ hnr hk)
 ·simp only[look]
  exact pD hn h
def Cy{O:aI}{an:lF}{ν0:List Nat}{st1 st':St}{loc loc':Nat->Loc}{w W:World}{a:Act}{pre:List Nat}(g:Good cx.eT X (aA O st' loc' W))(hsz:a.tmps.size=cx.N)(hdf:a.defers=[])(henv:gA cx.eT (aA O st' loc' W) st'.env a)
  (ht:Tr (aA O st1 loc w) (aA O st' loc' W))(hkeep:∀n∈an.keep,∀v,look st1.env n=some v->∃u,look st'.env n=some u/\nZ u v)(hf:∃ν,G7 an.xD st1 st' pre ν/\vp an.aO ν0 ν=true)(hB:qJ an ν0 st1 pre=true) :
  ∃loc2,Good cx.eT X (aA O (gH an ν0 st1 pre) loc2 W)/\gA cx.eT (aA O (gH an ν0 st1 pre) loc2 W) (gH an ν0 st1 pre).env a/\Tr (aA O st1 loc w) (aA O (gH an ν0 st1 pre) loc2 W):=by
 simp only[qJ,af]at hB;obtain⟨h1,_,h3,h4⟩:=hB;obtain⟨ν,hf,hk⟩:=hf;obtain⟨loc2,m1,m2,m3⟩:=D9 (an:=an.xD) (st:=st1) (st':=st') (O:=O) (loc:=loc') (w:=W) (loc0:=loc) (w0:=w) (a:=a) (W:=[]) (ν:=ν) pre h3 pS (fun n hn=>qS h4 hn)
  (fun i m hi=>by
   rcases qC hi with⟨o,o',k1,k2,k3,k4⟩|k
   ·rw[k1]at k2;cases k2
    refine .inr ⟨?_,o,k1,k3⟩;have hl:i<ν.length:=by rw[<-pf hf.get];exact bG k1
    rw[List.getElem?_eq_getElem hl];exact congrArg some (EY hk k1 k3 k4 (List.getElem?_eq_getElem hl))
   ·exact .inl k) g ⟨hsz,hdf,henv⟩ ht h1 hkeep hf
 exact⟨loc2,m1,m2.env,m3⟩
def SW(hok:ln P cx X){it:FuncId}(hit:ue P it)(heg:∀args w,(callFunc it args).run P w=.ok (.enter it args) w){O:aI}{st:St}{loc:Nat->Loc}{w:World}{a:Act}{K:Ex->St->VC}{g:Operand}{ps:Array Tmp}{asg body:Code}{p d:Nat}
  (r:St->lF)(hsh:yy ps.toList asg=some (p,d))(hsb:kz body=true)(hpN:p<cx.N)(qK:d<cx.N)(hA:fO cx (aA O st loc w) st a)(gd:Good cx.eT X (aA O st loc w))(hO:eS O w)
  (h:(SR cx it r g p d body st K).holds):(Code.rangeFunc g ps asg body).wpIn bd 3 P (QR cx X O K (aA O st loc w) a) a w:=by
 obtain⟨hps,id,ops,o,rfl,hops,hdst,hop,hgd⟩:=J9 hsh;unfold SR at h;split at h
 case h_2=>exact h.elim
 rename_i f n1 n2 hev;split at h
 case h_2=>exact h.elim
 rename_i T1 bs T2 k hb h1 h2;simp only[af,cf]at hb;have hf:=bz hb.1;subst hf;have hne:n1≠n2:=fun e=>by have h3:=hb.2;subst e;rw[Nat.beq_refl]at h3;cases h3
 obtain⟨st1,hst1⟩:∃s,s=bC (bC st n1) n2:=⟨_,rfl⟩
 rw[<-hst1]at h;generalize Ul st1 (r st1)=an at h;unfold Um at h;split at h
 case h_2=>exact h.elim
 rename_i ν0 _;obtain⟨⟨hk1,hk2,hlen⟩,hfit,hbd,hend⟩:=h;obtain⟨x0,hinv0,hx0,hf0⟩:=Cw hfit;subst hx0;obtain⟨kN,hkN⟩:∃kN:Nat,kN=cc k:=⟨_,rfl⟩
 have hkk:(k:Int)=(kN:Int):=by rw[hkN];exact(ew (b7 (by decide) hk1)).symm
 rw[<-hkN]at hbd hend;have hHB:∀pre,an.inv pre->qJ an ν0 st1 pre=true/\∀i,pre.length<fK bs.length kN->(vc cx [] body 0 (Gi an ν0 st1 bs kN p d pre i) (rK an ν0 st1 K pre i)).holds:=by
  intro pre hp;have:=hbd pre hp;split at this
  ·rename_i e;exact⟨e,fun i hi=>this i hi⟩
  ·exact this.elim
 have hx:=bM hA.env g;rw[hev]at hx;obtain⟨hgv,hcap⟩:=hx;obtain⟨b1,vs1,hl1,hbs1,hheap1,hc1⟩:=(gd.obj n1 _ h1).2;obtain⟨b2,vs2,hl2,hbs2,hheap2,hc2⟩:=(gd.obj n2 _ h2).2;cases hc1 with
 |cons hv1 _ hr1=>
 cases hr1;cases hc2 with
 |cons hv2 _ hr2=>
 cases hr2;rename_i v1 _ v2 _;obtain⟨a0,cap,rfl,hcap1,hsome,hpart⟩:=SS hv1;obtain⟨rfl,_⟩:=cS.1 hv2;have hb1:b1<w.heap.size:=(Array.getElem?_eq_some_iff.1 hheap1).1;have hb2:b2<w.heap.size:=(Array.getElem?_eq_some_iff.1 hheap2).1;have hcell1:w.cell? ⟨b1,0,none⟩=some (.slice a0 bs.length cap):=by rw[cell_of_row w b1 _ _ _ (0,0) hheap1];rfl
 have hcell2:w.cell? ⟨b2,0,none⟩=some (.int .i64 kN):=by rw[cell_of_row w b2 _ _ _ (0,0) hheap2,<-hkk];rfl
 obtain⟨tr1,g1⟩:=mS (cx:=cx) gd n1;obtain⟨tr2,g2⟩:=mS (cx:=cx) g1 n2;rw[<-hst1]at tr2 g2;have trS:=tr1.trans tr2;have hlook:∀n oc,look st1.aF n=some oc->n≠n1/\n≠n2/\look st.aF n=some oc:=by
  intro n oc hn;rw[hst1]at hn;simp only[bC,lP]at hn;split at hn
  ·cases hn
  ·split at hn
   ·cases hn
   ·rename_i e1 e2;exact⟨fun e=>e2 e.symm,fun e=>e1 e.symm,hn⟩
 have hno1:∀{loc' W pre},Tr (aA O st1 loc w) (aA O (gH an ν0 st1 pre) loc' W)->¬(aA O (gH an ν0 st1 pre) loc' W).owns b1:=by
  intro loc' W pre t ho;rcases t.own b1 ho with⟨n,oc,k1,k2⟩|k
  ·obtain⟨e1,_,k3⟩:=hlook n oc k1
   exact e1 (gd.apart n n1 oc _ b1 k3 h1 k2 (by show b1∈((aA O st loc w).loc n1).bs;rw[hbs1];simp))
  ·exact absurd hb1 (bc.2 k)
 have hno2:∀{loc' W pre},Tr (aA O st1 loc w) (aA O (gH an ν0 st1 pre) loc' W)->¬(aA O (gH an ν0 st1 pre) loc' W).owns b2:=by
  intro loc' W pre t ho;rcases t.own b2 ho with⟨n,oc,k1,k2⟩|k
  ·obtain⟨_,e1,k3⟩:=hlook n oc k1
   exact e1 (gd.apart n n2 oc _ b2 k3 h2 k2 (by show b2∈((aA O st loc w).loc n2).bs;rw[hbs2];simp))
  ·exact absurd hb2 (bc.2 k)
 have hgbs:∀b∈X.DP,b<w.heap.size:=fun b hb=>X.Gl gd.kT.1 b hb
 have hpartW:∀{loc' W pre} (_:Tr (aA O st1 loc w) (aA O (gH an ν0 st1 pre) loc' W)) i,VR cx.eT Li (eG bs kN i) (aA O (gH an ν0 st1 pre) loc' W).A W (kr a0 bs.length kN i):=fun t i=>
  VR.frame (hpart kN i) (trS.trans t).cell
 have hv0:mr [] a=a:=yz hA.defers;have hplainH:∀{pre},qJ an ν0 st1 pre=true->og (gH an ν0 st1 pre).aF=true:=fun hB=>by simp only[qJ,af]at hB;exact hB.2.1
 have hO1:∀{W:World},w.heap.size<=W.heap.size->eS O W:=fun hs=>hO.tr hs
 refine wpIn_rangeFunc_ownG (F:=bd) (n:=3) rfl (by decide) (gf:=f) (lb:=#[.pointer (some ⟨b1,0,none⟩),.pointer (some ⟨b2,0,none⟩)]) (by rw[hgv];simp only[List.map];rw[hl1,hl2]) trivial heg
  (hit b1 b2 a0 bs.length cap kN w (dc.1 (by rw[<-hkk];exact hk1)) (dc.1 (by rw[<-hkk];exact hk2)) hlen hcap1 hsome hb1 hb2 hcell1 hcell2)
  (fun h k=>⟨k.1.trans h.1,k.2.trans h.2⟩)
  (fun W l o o' hl ho hc _=>⟨World.cell?_of_block (fu (by simp only;omega)),World.cell?_of_block (fu (by simp only;omega))⟩)
  (fw _ _) (fun x=>by rw[<-Array.length_toList (xs:=ps),hps];rfl)
  (fun pre W=>∃loc',an.inv pre/\qJ an ν0 st1 pre=true/\Good cx.eT X (aA O (gH an ν0 st1 pre) loc' W)/\gA cx.eT (aA O (gH an ν0 st1 pre) loc' W) (gH an ν0 st1 pre).env a/\Tr (aA O st1 loc w) (aA O (gH an ν0 st1 pre) loc' W))
  (fun c pre W=>c=.ret/\∃st' loc',((∃j,pre=ba j)->(K .ret st').holds)/\og st'.aF=true/\Good cx.eT X (aA O st' loc' W)/\gA cx.eT (aA O st' loc' W) st'.env a/\Tr (aA O st1 loc w) (aA O st' loc' W))
  ?_ ?_ ?_ (fun x=>(a.put (some p) (kr a0 bs.length kN x)).put (some d) (kr a0 bs.length kN x)) ?_ ?_ ?_ ?_
 ·rintro pre A B row ⟨loc',hi,hB,g',he',t'⟩ hg hr
  have bk:=r9.of hg hr;exact⟨loc',hi,hB,xC g' bk (fun n oc hn=>mE (hplainH hB) hn) hgbs,AX he' bk,Dw t' bk (ak _)⟩
 ·rintro c pre A B row ⟨rfl,st',loc',hk,hpl,g',he',t'⟩ hg hr
  have bk:=r9.of hg hr;exact⟨rfl,st',loc',hk,hpl,xC g' bk (fun n oc hn=>mE hpl hn) hgbs,AX he' bk,Dw t' bk (ak _)⟩
 ·have hB:=(hHB [] hinv0).1
  obtain⟨loc2,m1,m2,m3⟩:=Cy (an:=an) (pre:=[]) g2 hA.size hA.defers (fun n v hv=>by
   rw[hst1]at hv;exact(hA.env n v hv).tr trS) (Tr.refl _) (fun n _ v hv=>⟨v,hv,jW v⟩) hf0 hB
  exact⟨loc2,hinv0,hB,m1,m2,m3⟩
 ·intro l x W K' hK'
  refine P8 hops hdst hop hgd (fun _=>trivial) ?_;have e:({tmps:=(ps.zip #[kr a0 bs.length kN x]).foldl (fun t (p,v)=>t.setIfInBounds p v) a.tmps,defers:=[]}:Act)=a.put (some p) (kr a0 bs.length kN x):=by
   have:ps= #[p]:=by rw[<-fv (xs:=ps),hps]
   rw[this];refine Eq.trans ?_ (congrArg (fun z:Act=>z.put (some p) (kr a0 bs.length kN x)) hv0);rw[show(#[p]:Array Tmp).zip #[kr a0 bs.length kN x]= #[(p,kr a0 bs.length kN x)] by simp[Array.zip]];rfl
  rw[e];have e2:(a.put (some p) (kr a0 bs.length kN x)).eval (.tmp p)=kr a0 bs.length kN x:=by
   have hp':p<a.tmps.size:=by rw[hA.size];exact hpN
   simp[Act.put,Act.eval,ei,hp']
  rw[e2];exact hK'
 ·rintro l pre x W ⟨loc',hi,hB,g',he',t'⟩ hlt
  have hvc:=(hHB pre hi).2 x hlt;have hpv:=hpartW t' x;have hA1:fO cx (aA O (gH an ν0 st1 pre) loc' W) {gH an ν0 st1 pre with env:=(p,.s (.one (.d Li (eG bs kN x)))) :: (gH an ν0 st1 pre).env} (a.put (some p) (kr a0 bs.length kN x)):=
   fO.put (st:=gH an ν0 st1 pre) ⟨hA.size,hA.defers,he'⟩ (Tr.refl _) rfl hpN hpv
  have hA2:fO cx (aA O (gH an ν0 st1 pre) loc' W) (Gi an ν0 st1 bs kN p d pre x) ((a.put (some p) (kr a0 bs.length kN x)).put (some d) (kr a0 bs.length kN x)):=
   fO.put hA1 (Tr.refl _) rfl qK hpv
  have hrun:=xB (n:=3-1-1) (st:=Gi an ν0 st1 bs kN p d pre x) hok (F:=bd.inRound l) (.inr ⟨l,rfl⟩) [] body 0 hsb hA2 g' (hO1 t'.size) hvc;rw[yz hA2.defers]at hrun;refine wpIn_mono hrun ?_;rintro e a2 W2 ⟨a',rfl,_,hq⟩;have keeps:∀{st2 loc2},Tr (aA O (gH an ν0 st1 pre) loc' W) (aA O st2 loc2 W2)->KeepsFrom w.heap.size W W2:=fun k3=>
   ⟨k3.size,fun k o hk hko ho=>(k3.block k (Array.getElem?_eq_some_iff.1 hko).1 (EX g' (fun n oc hn=>mE (hplainH hB) hn) hko ho)).trans hko⟩
  cases e with
  |normal=>
   obtain⟨st2,loc2,k1,k2,k3,k4,k5⟩:=hq;obtain⟨x1,i2,hx1,hf1⟩:=Cw k1;subst hx1;have hB2:=(hHB _ i2).1;have hnr:qA an.xD.keep an.xD.refs=true:=by simp only[qJ,ph,af]at hB;exact hB.1.2.2.2
   obtain⟨loc2,m1,m2,m3⟩:=Cy (an:=an) (st':={st2 with env:=(gH an ν0 st1 pre).env}) (pre:=pre++[x]) k2 hA.size hA.defers (he'.tr k3) (t'.trans k3) (fun n hn v hv=>⟨v,SU (an:=an.xD) rfl hnr hn hv,jW v⟩) hf1 hB2;exact⟨keeps k3,⟨World.cell?_of_block (k3.block b1 (de hb1 t'.size) (hno1 t')),World.cell?_of_block (k3.block b2 (de hb2 t'.size) (hno2 t'))⟩,loc2,i2,hB2,m1,m2,m3⟩
  |ret=>
   obtain⟨st2,loc2,k1,k2,k3,k4,k5⟩:=hq;simp only[rK]at k1;split at k1
   ·rename_i hpl
    exact⟨keeps k3,rfl,_,loc2,fun⟨j,hj⟩=>k1 (by
     cases j with
     |zero=>simp at hj
     |succ j=>
      rw[cq]at hj;obtain⟨e1,e2⟩:=List.append_inj' hj rfl;simp at e2;rw[e2];exact e1),hpl,k2,he'.tr k3,t'.trans k3⟩
   ·exact k1.elim
  |exit i=>obtain⟨_,_,k1,_⟩:=hq;exact k1.elim
  |goto l=>exact hq.elim
  |panic c=>exact hq.elim
  |outgrown=>exact hq.elim
 ·rintro D xs W hD rfl ⟨loc',hi,hB,g',he',t'⟩ hm
  refine⟨D,_,loc',⟨?_,hend hi,g',trS.trans t',he',hD,hm,hplainH hB⟩⟩;rw[hA.defers];rfl
 ·rintro D c pre W hD hsp ⟨rfl,st',loc',hk,hpl,g',he',t'⟩ hm
  refine wpIn_ret ⟨D,st',loc',⟨?_,hk hsp,g',trS.trans t',he',hD,hm,hpl⟩⟩;rw[hA.defers];rfl
end
def Lj(cx:Cx)(it:FuncId)(ra:List (Nat×(St->lF))):Code->St->(Ex->St->VC)->VC
 |.seq a b,st,K=>match kz b with
  |true=>Lj cx it ra a st fun e st'=>match e with
   |.normal=>vc cx [] b 0 st' K
   |e=>K e st'
  |false=>match kz a with
   |true=>vc cx [] a 0 st fun e st'=>match e with
    |.normal=>Lj cx it ra b st' K
    |e=>K e st'
   |false =>.ff
 |.block id (.rangeFunc g ps asg body),st,K=>match yy ps.toList asg,look ra id with
  |some (p,d),some r=>match Nat.blt p cx.N&&(Nat.blt d cx.N&&kz body)with
   |true=>SR cx it r g p d body st K
   |false =>.ff
  |_,_ =>.ff
 |_,_,_ =>.ff
def Un(cx:Cx)(it:FuncId)(ra:List (Nat×(St->lF)))(res:List ResultVar)(c:Code)(st:St)(K:List cP->St->VC):VC:=
 Lj cx it ra c st fun e st'=>match e with
  |.exit _ =>.ff
  |_=>match og st'.aF with
   |true=>qf cx st' res fun vs=>K vs st'
   |false =>.ff
def Xc:Exit->Option Ex
 |.normal=>some .normal
 |.exit n=>some (.exit n)
 |.ret=>some .ret
 |_=>none
def uf(B:Nat)(S:bI)(ds:List Deferred):Prop:=ds=[]\/∃D,ds=[Ns D]/\B<=D/\S.w.heap[D]?=some (.deferred (some []))/\¬S.owns D
section
variable{X:Ext}{P:Program}{cx:Cx}
def uf.tr{B:Nat}{S S':bI}{ds:List Deferred}(h:uf B S ds)(t:Tr S S'):uf B S' ds:=by
 rcases h with h|⟨D,h1,h2,h3,h4⟩
 ·exact .inl h
 ·have hlt:D<S.w.heap.size:=(Array.getElem?_eq_some_iff.1 h3).1
  exact .inr ⟨D,h1,h2,(t.block D hlt h4).trans h3,fun ho=>(t.own D ho).elim h4 fun h=>absurd hlt (bc.2 h)⟩
structure SX (cx:Cx) (X:Ext) (O:aI) (K:St->VC) (S:bI) (a':Act) (w':World) (ds:List Deferred) (a2:Act) (st':St) (loc':Nat->Loc):Prop where
 act:a'=mr ds a2
 rel:fO cx (aA O st' loc' w') st' a2
 vc:(K st').holds
 fP:Good cx.eT X (aA O st' loc' w')
 tr:Tr S (aA O st' loc' w')
 marks:uf S.w.heap.size (aA O st' loc' w') ds
def QE(cx:Cx)(X:Ext)(O:aI)(K:Ex->St->VC)(S:bI):Exit->Act->World->Prop:=fun e a' w'=>∃x,Xc e=some x/\∃ds a2 st' loc',SX cx X O (K x) S a' w' ds a2 st' loc'
def Nu{O:aI}{K:Ex->St->VC}{W:List Nat}{st1:St}{S0 S1:bI}{ds:List Deferred}(t:Tr S0 S1)(hm:uf S0.w.heap.size S1 ds){e:Exit}{a:Act}{w:World}(h:zW ds (jx cx X O K W st1 S1) e a w):QE cx X O K S0 e a w:=by
 obtain⟨a',rfl,hb,hq⟩:=h;cases e with
 |normal=>obtain⟨st',loc',k1,k2,k3,k4,_⟩:=hq;exact⟨_,rfl,ds,a',st',loc',rfl,k4,k1,k2,t.trans k3,hm.tr k3⟩
 |exit i=>obtain⟨st',loc',k1,k2,k3,k4,_⟩:=hq;exact⟨_,rfl,ds,a',st',loc',rfl,k4,k1,k2,t.trans k3,hm.tr k3⟩
 |ret=>obtain⟨st',loc',k1,k2,k3,k4,_⟩:=hq;exact⟨_,rfl,ds,a',st',loc',rfl,k4,k1,k2,t.trans k3,hm.tr k3⟩
 |goto l=>exact hq.elim
 |panic c=>exact hq.elim
 |outgrown=>exact hq.elim
def QE.mono{O:aI}{K:Ex->St->VC}{S0 S1:bI}(t:Tr S0 S1){e:Exit}{a:Act}{w:World}(h:QE cx X O K S1 e a w):QE cx X O K S0 e a w:=by
 obtain⟨x,hx,ds,a2,st',loc',q⟩:=h;refine⟨x,hx,ds,a2,st',loc',q.act,q.rel,q.vc,q.fP,t.trans q.tr,?_⟩;rcases q.marks with h|⟨D,h1,h2,h3⟩
 ·exact .inl h
 ·exact .inr ⟨D,h1,b5 t.size h2,h3⟩
def P9(hok:ln P cx X){it:FuncId}(hit:ue P it)(heg:∀args w,(callFunc it args).run P w=.ok (.enter it args) w){O:aI}(ra:List (Nat×(St->lF))):∀(c:Code) {st:St} {loc:Nat->Loc} {w:World} {a:Act} {K:Ex->St->VC},
  fO cx (aA O st loc w) st a->Good cx.eT X (aA O st loc w)->eS O w->(Lj cx it ra c st K).holds->c.wpIn bd 3 P (QE cx X O K (aA O st loc w)) a w:=by
 intro c;induction c with
 |seq c1 c2 ih1 ih2=>
  intro st loc w a K hA g hO h;simp only[Lj]at h;split at h
  ·rename_i hs2
   refine wpIn_seq (wpIn_mono (ih1 hA g hO h) ?_);rintro e a1 w1 ⟨x,hx,ds,a2,st',loc',q⟩;cases e with
   |normal=>
    cases hx;obtain⟨rfl,q2,q3,q4,q5,q6⟩:=q;exact wpIn_mono (xB (n:=3) hok (F:=bd) (.inl rfl) ds c2 0 hs2 q2 q4 (hO.tr q5.size) q3) fun e a w hq=>Nu q5 q6 hq
   |exit i=>cases hx;exact⟨_,rfl,ds,a2,st',loc',q⟩
   |ret=>cases hx;exact⟨_,rfl,ds,a2,st',loc',q⟩
   |goto l=>cases hx
   |panic c=>cases hx
   |outgrown=>cases hx
  ·split at h
   ·rename_i hs1
    have hr:=xB (n:=3) hok (F:=bd) (.inl rfl) [] c1 0 hs1 hA g hO h;rw[yz hA.defers]at hr;refine wpIn_seq (wpIn_mono hr ?_);rintro e a1 w1 hq;cases e with
    |normal=>
     obtain⟨a',rfl,hb,st',loc',k1,k2,k3,k4,_⟩:=hq;show c2.wpIn _ _ _ _ (mr [] a') w1;rw[yz hb];exact wpIn_mono (ih2 k4 k2 (hO.tr k3.size) k1) fun e a w hq=>hq.mono k3
    |exit i=>exact Nu (K:=K) (Tr.refl _) (.inl rfl) hq
    |ret=>exact Nu (K:=K) (Tr.refl _) (.inl rfl) hq
    |goto l=>exact hq.choose_spec.2.2.elim
    |panic c=>exact hq.choose_spec.2.2.elim
    |outgrown=>exact hq.choose_spec.2.2.elim
   ·exact h.elim
 |block id b ih=>
  intro st loc w a K hA g hO h;cases b with
  |rangeFunc gf ps asg body=>
   simp only[Lj]at h;split at h
   ·rename_i p d r hsh _
    split at h
    ·rename_i hb
     simp only[af]at hb;refine wpIn_block (wpIn_mono (SW hok hit heg r hsh hb.2.2 (mf hb.1) (mf hb.2.1) hA g hO h) ?_);have fin:∀{x:Ex} {a':Act} {w':World},(∃D st' loc',Nt cx X O (K x) (aA O st loc w) a a' w' D st' loc')->∃ds a2 st' loc',SX cx X O (K x) (aA O st loc w) a' w' ds a2 st' loc':=by
      rintro x a' w' ⟨D,st',loc',q⟩;exact⟨[Ns D],a,st',loc',q.act,⟨hA.size,hA.defers,q.env⟩,q.vc,q.fP,q.tr,.inr ⟨D,rfl,q.Xi,q.mark,EX q.fP (fun n oc hn=>mE q.plain hn) q.mark rfl⟩⟩
     intro e a' w' hq;cases e with
     |normal=>exact⟨_,rfl,fin hq⟩
     |ret=>exact⟨_,rfl,fin hq⟩
     |exit i=>exact hq.elim
     |goto l=>exact hq.elim
     |panic c=>exact hq.elim
     |outgrown=>exact hq.elim
    ·exact h.elim
   ·exact h.elim
  |_=>exact h.elim
 |_=>intro st loc w a K hA g hO h;exact h.elim
def Qa(hok:TyOK P cx){O:aI}{st:St}{loc:Nat->Loc}{w:World}{a:Act}(g:Good cx.eT X (aA O st loc w))(he:gA cx.eT (aA O st loc w) st.env a){fn:Func}{K:List cP->VC}(h:(qf cx st fn.results.toList K).holds) :
  ∃vs us,(K vs).holds/\cR cx.eT (aA O st loc w) vs us/\(results fn a.tmps).run P w=.ok (uS us) w:=by
 obtain⟨vs,us,m1,m2,m3⟩:=yV (P:=P) hok g he h;refine⟨vs,us,m1,m2,?_⟩;have hm:(fn.results.mapM (rS a.tmps):Sem (Array Value)).run P w=.ok us.toArray w:=by
  rw[<-fv (xs:=fn.results),List.mapM_toArray,Sem.run_map,m3];rfl
 have he:results fn a.tmps=(do
   let xs <-fn.results.mapM (rS a.tmps)
   return if h:xs.size=1 then xs[0]else .tuple xs):=by
  unfold results;congr 1
 rw[he,Sem.run_bind,hm];simp only[ep,Sem.run_pure]
 match us with
 |[]=>rfl
 |[u]=>rfl
 |_ :: _ :: _=>rfl
def Ik(hok:ln P cx X){it:FuncId}(hit:ue P it)(heg:∀args w,(callFunc it args).run P w=.ok (.enter it args) w){f:FuncId}{fn:Func}{c:Code}(hf:P.funcs[f]?=some fn)(hb:fn.body=some c)(hN:cx.N=fn.ntmps)(ra:List (Nat×(St->lF))){O:aI}{st:St}{loc:Nat->Loc}{w:World}
  {args:Array Value}{K:List cP->St->VC}(hsz:args.size<=fn.ntmps)(g:Good cx.eT X (aA O st loc w))(hO:eS O w)
  (henv:∀t sv,look st.env t=some sv->∃v,args[t]?=some v/\dI cx.eT (aA O st loc w) sv v)
  (h:(Un cx it ra fn.results.toList c st K).holds) :
  Calls P f args w fun e w'=>∃vs us st' loc',e=.returned (uS us)/\(K vs st').holds/\cR cx.eT (aA O st' loc' w') vs us/\Good cx.eT X (aA O st' loc' w')/\Tr (aA O st loc w) (aA O st' loc' w'):=by
 refine callsIn_wide.1 (callsIn_of_wp_marks (n:=3) hf hb trivial ?_);have hA:fO cx (aA O st loc w) st {tmps:=args++Array.replicate (fn.ntmps-args.size) undef,defers:=[]}:=by
  refine⟨by simp[hN];omega,rfl,fun t sv ht =>?_⟩;obtain⟨v,hv,hr⟩:=henv t sv ht;have hlt:t<args.size:=by
   rcases bg t args.size with hh|hh
   ·exact hh
   ·rw[Array.getElem?_eq_none hh]at hv;cases hv
  rw[ei,Array.getElem?_append,if_pos hlt,hv];exact hr
 refine wpIn_mono (P9 hok hit heg ra c hA g hO h) ?_;have fin:∀{a':Act} {w':World} {ds:List Deferred} {a2:Act} {st':St} {loc':Nat->Loc},SX cx X O (fun st'=>match og st'.aF with
   |true=>qf cx st' fn.results.toList fun vs=>K vs st'
   |false =>.ff) (aA O st loc w) a' w' ds a2 st' loc'->
   LeavesInM bd 3 P fn a'.tmps (fun e w'=>∃vs us st' loc',e=.returned (uS us)/\(K vs st').holds/\cR cx.eT (aA O st' loc' w') vs us/\Good cx.eT X (aA O st' loc' w')/\Tr (aA O st loc w) (aA O st' loc' w')) a'.defers .returning w':=by
  rintro a' w' ds a2 st' loc' ⟨rfl,q2,q3,q4,q5,q6⟩;split at q3
  case h_2=>exact q3.elim
  rename_i hpl;rcases q6 with rfl|⟨D,rfl,k1,k2,k3⟩
  ·obtain⟨vs,us,m1,m2,m3⟩:=Qa hok.toTyOK q4 q2.env q3
   exact⟨_,m3,vs,us,st',loc',rfl,m1,m2,q4,q5⟩
  ·have bk:r9 w.heap.size w' (w'.putObj D (.deferred none)):=r9.of (grownBy_putObj' w' D _) (fun r e=>by cases e;exact⟨k1,_,k2,rfl⟩)
   have g':Good cx.eT X (aA O st' loc' (w'.putObj D (.deferred none))):=xC q4 bk (fun n oc hn=>mE hpl hn) (fun b hb=>X.Gl g.kT.1 b hb);have t':Tr (aA O st loc w) (aA O st' loc' (w'.putObj D (.deferred none))):=Dw q5 bk (ak _);have e':gA cx.eT (aA O st' loc' (w'.putObj D (.deferred none))) st'.env a2:=AX q2.env bk;obtain⟨vs,us,m1,m2,m3⟩:=Qa hok.toTyOK g' e' q3;refine⟨by simp,.inl ⟨D,_,rfl,run_takeDeferred k2,?_⟩⟩;exact⟨_,m3,vs,us,st',loc',rfl,m1,m2,g',t'⟩
 rintro e a' w' ⟨x,hx,ds,a2,st',loc',q⟩;cases e with
 |normal=>cases hx;exact fin q
 |ret=>cases hx;exact fin q
 |exit i=>cases hx;exact q.vc.elim
 |goto l=>cases hx
 |panic c=>cases hx
 |outgrown=>cases hx
variable{aO:List Ob}{args:List Cl}
def Dx(B:Cx)(Γ:List (FuncId×(Bool×aU)))(it:FuncId)(fn:Func)(ra:List (Nat×(St->lF)))(aO:List Ob)(args:List Cl)(alts:List (Alt aO args))(a:CD args)(x:PD aO):VC:=
 Un (qR B Γ fn.ntmps) it ra fn.results.toList (codeOf fn) (ky aO args a x) fun vs st'=>sG a x vs st' alts
def Dy{B:Cx}{Γ:List (FuncId×(Bool×aU))}(hok:bP P B X Γ){it:FuncId}(hit:ue P it){fi:Func}(hfi:P.funcs[it]?=some fi)(hgi:pj fi 3=true){f:FuncId}{fn:Func}(hf:P.funcs[f]?=some fn)(hg:pj fn args.length=true)(ra:CD args->PD aO->List (Nat×(St->lF)))
  {pre:CD args->PD aO->Prop}{alts:List (Alt aO args)}(h:∀a x,gV args a->pre a x->(Dx B Γ it fn (ra a x) aO args alts a x).holds) :
  bY P B.eT X f false (aZ aO args pre alts):=by
 simp only[pj,af,cf]at hg hgi;obtain⟨⟨h1,h2⟩,h3⟩:=hg;obtain⟨c,hc⟩:=dj.1 h1;have heg:∀args w,(callFunc it args).run P w=.ok (.enter it args) w:=fun args w=>wu hfi (by obtain⟨ci,hci⟩:=dj.1 hgi.1.1;rw[hci];rfl) hgi.1.2 args w
 refine⟨⟨fn,hf,by rw[hc];rfl,h2⟩,fun O st loc w asg vs K hK g hO ha =>?_⟩;unfold aZ at hK;obtain⟨t1,g1,e1,k1⟩:=uW args asg g;simp only at hK;split at hK
 case h_2=>exact hK.elim
 rename_i ν hν;split at hK
 case h_2=>exact hK.elim
 rename_i a x hnd hga hx;obtain⟨hp,hpre,hK⟩:=Az hK;obtain⟨hp1,hp2⟩:=jh.1 hp;refine(Ek (f:=f) (B:=B) (pre:=pre) g1 hO (k1 vs ha) hnd hga hx hp1 hp2 hpre hK fun hwf O' loc0 g0 hOin' hargs hlen =>?_).mono ?_
 ·have hcode:codeOf fn=c:=by unfold codeOf;rw[hc];rfl
  have hvc:=h a x hwf hpre;unfold Dx at hvc;rw[hcode]at hvc;exact Ik (X:=X) (hok fn.ntmps) hit heg hf hc (by rfl) (ra a x) (O:=O') (loc:=loc0) (w:=w) (args:=vs.toArray) (st:=ky aO args a x)
   (by rw[di,hlen];exact en h3) g0 hOin'
   (fun t sv ht=>by
    obtain⟨_,v,k1,k2⟩:=tf 0 hargs t sv ht;exact⟨v,by simpa using k1,k2⟩) hvc
 ·rintro e w' ⟨v,sv,st',loc',q1,q2,q3,q4,q5,q6⟩
  exact⟨v,sv,st',loc',q1,q2,q3.trans e1,(fun hq=>by cases hq),q4,t1.trans q5,q6⟩
end
end Go.Vg

