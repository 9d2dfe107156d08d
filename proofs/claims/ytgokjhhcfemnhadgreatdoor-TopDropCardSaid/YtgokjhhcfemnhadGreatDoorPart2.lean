/- A part of the proof that the law TopDropCard holds of the given program: facts that are used there. -/
import Derived.Test.YtgokjhhcfemnhadGreatDoorPart1
import Derived.Deep.Heap
import Derived.Room.AppendFits
import Derived.Lib.UnsafeStr
import Derived.Lib.SplitLaws
import Derived.Lib.ItoaNum
import Derived.Lib.AtoiAll
import Derived.RangeFuncWrites
import Derived.RangeFuncCalls
import Derived.OrdersIn
import Derived.TacticsIn
import Derived.RangeFuncBox
set_option linter.unusedSimpArgs false
set_option linter.unusedVariables false
set_option linter.defProp false
noncomputable section
open True renaming intro->aa
open Go.Lib renaming itoa->ab,trimSuffix->ae,hasPrefix->av,trimPrefix->ax,decDigits->ay,index->bm,parseUint10->bo,atoiAll->b6,splitK->cn,strCells->ct,strCells_length->dk
open Bool renaming and_eq_true->af,or_eq_true->bq,not_eq_true'->cf,or_eq_false_iff->du,not_eq_true->fh,and_false->fm
open List renaming mem_cons->ag,take->ah,drop->ai,map_cons->aj,mem_append->au,length_append->aw,range->ba,replicate->bb,mem_map->bf,length_take->bh,length->bj,mem_of_getElem?->br,mem_map_of_mem->bw,flatMap_cons->bx,drop_eq_nil_of_le->b3,mem_of_mem_take->b8,all_eq_true->ca,take_length->cb,mem_cons_of_mem->cd,take_of_length_le->cg,nodup_cons->ch,length_cons->cj,filter_cons->ck,isPrefixOf->cm,range_succ->cq,append_assoc->cu,any_eq_true->cw,any_eq_false->cy,all_eq_false->c6,pairwise_cons->c8,length_singleton->da,mem_singleton->db,size_toArray->di,map_map->dn,getElem_of_mem->dw,take_add_one->dx,length_map->ec,cons_append->ee,drop_zero->ef,mem_append_left->eg,mem_filterMap->eh,mem_append_right->ej,mem_range->et,drop_eq_getElem_cons->eu,nil_append->ey,mem_filter->e8,nodup_append->fb,take_succ_cons->fc,take_zero->fk,length_nil->fl,mem_flatMap->fo
open Nat renaming le_refl->ak,zero_le->ar,min->a8,not_lt->bc,lt_or_ge->bg,beq->bp,eq_of_beq_eq_true->bz,le_trans->b5,min_eq_left->c7,lt_of_lt_of_le->de,zero_add->dh,le_of_ble_eq_true->en,strongRecOn->fe,min_eq_right->fp
open Int renaming not_lt->ao,le_refl->az,le_trans->b7,toNat->cc,not_le->cp,ofNat_le->dc,ofNat_inj->dd,toNat_natCast->dv,toNat_of_nonneg->ew,tmod_eq_emod_of_nonneg->ez,le_sub_one_of_lt->fg
open Classical renaming byContradiction->aq,choose->b9,choose_spec->cz
open Go.IntKind renaming u64->a7,u8->dm,min->dp,max->dq,signed->dr,bits->dt,wrap->dT
open Go.Fence renaming wide->bd
open Go.Value renaming int->bt,ownBlock->ft
open Go.Op renaming bytesLess->bu
open BitVec renaming ofInt->b4
open Go.Oper renaming uponIn->cr,semAt_eq->fq
open Option.some renaming injEq->df,inj->dy
open Option renaming isSome_iff_exists->dj,bind_some->fj
open UInt8 renaming lt_iff_toNat_lt->dz,ofNat->ed,toNat_ofNat'->er
open Array renaming getD_eq_getD_getElem?->ei,toArray_toList->fv
open Go.World renaming block_lt_of_cell?->ek,putObj_heap_other->fu
open Go.Builtin renaming append_->eo
open Go.Result renaming andThen_ok->ep
open List.Perm renaming swap->e9
open Go.Region renaming Mode->fs
open Go.RowKit.Below renaming refl->fw
namespace Go.Vg
open Go.RowKit
def kA:List Cl->St->List cO->List cO×St
 |.d _ :: r,st,v :: vs=>match Az st v with
  |(v',st1)=>match kA r st1 vs with
   |(vs',st2)=>(v' :: vs',st2)
 |.obj _ :: r,st,v :: vs=>match kA r st vs with
  |(vs',st2)=>(v :: vs',st2)
 |.gW :: r,st,v :: vs=>match kA r st vs with
  |(vs',st2)=>(v :: vs',st2)
 |_,st,vs=>(vs,st)
def qA:List (Nat×OC)->List Nat->List (Nat×OC)
 |l,[]=>l
 |l,n :: r=>qA (rF l n) r
def mF:List Ob->List Ob->List Nat->Nat->List Nat
 |o :: os,o' :: os',n :: ns,b=>(match lg o o' with|true=>n|false=>b) :: mF os os' ns (b+1)
 |_,_ :: os',_,b=>b :: mF [] os' [] (b+1)
 |_,[],_,_=>[]
def Df:Nat->List Ob->List Ob->List (Nat×Nat)
 |k,o :: os,o' :: os'=>match lg o o' with
  |true=>(k,k) :: Df (k+1) os os'
  |false=>Df (k+1) os os'
 |_,_,_=>[]
def uU:Nat->List Ob->List Ob->List Nat->Bool
 |k,o :: os,o' :: os',n :: ns=>(match lg o o' with|true=>bp n k|false=>true)&&uU (k+1) os os' ns
 |_,_,_,_=>true
structure Alt (aN:List Ob) (args:List Cl):Type 1 where
 cv:Bool:=false
 bN:List Ob
 res:List Cl
 ok:CD args->PD aN->Prop:=fun _ _=>True
 out:CD args->PD aN->PD bN
 ret:CD args->PD aN->CD res
section
variable{aN:List Ob}{args:List Cl}
def Gb(al:Alt aN args)(a:CD args)(x:PD aN)(ν:List Nat)(st:St)(K:SV->St->VC):VC:=
 match nodupB (mF aN al.bN ν st.next)&&jY (st.next+al.bN.length) (mF aN al.bN ν st.next)with
 |true =>.imp (al.ok a x) (K (sF (wD (iq al.bN (al.out a x) (mF aN al.bN ν st.next)) al.res (al.ret a x)))
   {env:=st.env,aF:=lT (iq al.bN (al.out a x) (mF aN al.bN ν st.next)) al.bN (al.out a x) (mF aN al.bN ν st.next)++qA st.aF ν,next:=st.next+al.bN.length})
 |false =>.ff
def wP(a:CD args)(x:PD aN)(ν:List Nat)(st:St)(K:SV->St->VC):List (Alt aN args)->VC
 |[] =>.leaf True
 |[al]=>Gb al a x ν st K
 |al :: al2 :: r =>.both (Gb al a x ν st K) (wP a x ν st K (al2 :: r))
def aV(aN:List Ob)(args:List Cl)(pre:CD args->PD aN->Prop)(alts:List (Alt aN args)):aT:=fun Xy st K=>
 match kA args st Xy with
 |(Xy,st)=>match Uk aN args Xy st.aF []with
  |some ν=>match nodupB ν,lU false st.aF aN ν args Xy,eE false st.aF aN ν aN ν with
   |true,some a,some x=>Sa (mg aN x args Xy++iM aN x st.aF aN ν) (.and (pre a x) (wP a x ν st K alts))
   |_,_,_ =>.ff
  |none =>.ff
def kC(aN:List Ob)(args:List Cl)(a:CD args)(x:PD aN):St:=
 {env:=pS 0 (wD (iq aN x (upto 0 aN.length)) args a),aF:=lT (iq aN x (upto 0 aN.length)) aN x (upto 0 aN.length),next:=aN.length}
def sG(a:CD args)(x:PD aN)(vs:List cO)(st:St):List (Alt aN args)->VC
 |[] =>.ff
 |al :: r=>match kA al.res st vs with
  |(vs',st')=>match Uk al.bN al.res vs' st'.aF (Df 0 aN al.bN)with
   |some ν=>match nodupB ν&&(uU 0 aN al.bN ν&&(!al.cv || (sA aN&&(gC al.bN&&jI al.res)))),lU al.cv st'.aF al.bN ν al.res vs',eE al.cv st'.aF al.bN ν al.bN ν with
    |true,some b,some y =>.leaf (GX (mg al.bN y al.res vs'++iM al.bN y st'.aF al.bN ν++[al.ok a x/\y=al.out a x/\b=al.ret a x]))
    |_,_,_=>sG a x vs st r
   |none=>sG a x vs st r
def cR(B:Cx)(Γ:List (FuncId×(Bool×aT)))(fn:Func)(anns:dY)(aN:List Ob)(args:List Cl)(alts:List (Alt aN args))(a:CD args)(x:PD aN):VC:=
 Mm (qO B Γ fn.ntmps) anns fn.results.toList (codeOf fn) (kC aN args a x) fun vs st'=>sG a x vs st' alts
def gI:(cls:List Cl)->CD cls->Prop
 |[],_=>True
 |.d t :: r,x=>wf t x.1/\gI r x.2
 |.obj _ :: r,x=>gI r x
 |.gW :: r,x=>gI r x
end
section
variable{eT:TypeId}{X:Ext}
def qP{k:Nat}:∀{l:List Nat} {n:Nat},jY k l=true->n∈l->n<k
 |[],_,_,h=>by simp at h
 |m :: r,n,h,hn=>by
  simp only[jY,af]at h;rcases ag.1 hn with e|hn
  ·rw[e];exact mf h.1
  ·exact qP h.2 hn
def my(m:Nat):∀(ns:List Nat) (l:List (Nat×OC)),look (qA l ns) m=if m∈ns then none else look l m
 |[],l=>by simp[qA]
 |n :: r,l=>by
  simp only[qA];rw[my m r,lS];by_cases h1:m∈r
  ·simp[h1]
  ·by_cases h2:n=m
   ·subst h2;simp
   ·have:¬m=n:=fun e=>h2 e.symm
    simp[h1,h2,this]
def qB:∀{aN bN:List Ob} {ν:List Nat} {b i n:Nat},(mF aN bN ν b)[i]?=some n->
  (∃o o',aN[i]?=some o/\bN[i]?=some o'/\lg o o'=true/\ν[i]?=some n)\/b<=n
 |aN,[],ν,b,i,n,h=>by
  cases aN <;> cases ν <;> simp[mF]at h
 |[],o' :: os',ν,b,i,n,h=>by
  simp only[mF]at h;cases i with
  |zero=>simp at h;exact .inr (by omega)
  |succ i=>
   rcases qB (aN:=[]) (ν:=[]) (by simpa using h)with⟨o,_,h1,_⟩|h1
   ·simp at h1
   ·exact .inr (by omega)
 |o :: os,o' :: os',[],b,i,n,h=>by
  simp only[mF]at h;cases i with
  |zero=>simp at h;exact .inr (by omega)
  |succ i=>
   rcases qB (aN:=[]) (ν:=[]) (by simpa using h)with⟨o,_,h1,_⟩|h1
   ·simp at h1
   ·exact .inr (by omega)
 |o :: os,o' :: os',n0 :: ns,b,i,n,h=>by
  simp only[mF]at h;cases i with
  |zero=>
   simp only[List.getElem?_cons_zero,df]at h;split at h
   ·rename_i hk;exact .inl ⟨o,o',rfl,rfl,hk,by simp[h]⟩
   ·exact .inr (by omega)
  |succ i=>
   rcases qB (by simpa using h)with⟨a,a',h1,h2,h3⟩|h1
   ·exact .inl ⟨a,a',by simpa using h1,by simpa using h2,by simpa using h3⟩
   ·exact .inr (by omega)
def pT:∀{aN bN:List Ob} {ν:List Nat} {b:Nat},(mF aN bN ν b).length=bN.length
 |aN,[],ν,b=>by cases aN <;> cases ν <;> rfl
 |[],o' :: os',ν,b=>by simp[mF,pT]
 |o :: os,o' :: os',[],b=>by simp[mF,pT]
 |o :: os,o' :: os',n0 :: ns,b=>by simp[mF,pT]
def BV:∀{aN bN:List Ob} {ν:List Nat} {k i n:Nat} {o o':Ob},uU k aN bN ν=true->aN[i]?=some o->bN[i]?=some o'->lg o o'=true->ν[i]?=some n->n=k+i
 |[],_,_,_,_,_,_,_,_,h,_,_,_=>by simp at h
 |_ :: _,[],_,_,_,_,_,_,_,_,h,_,_=>by simp at h
 |_ :: _,_ :: _,[],_,_,_,_,_,_,_,_,_,h=>by simp at h
 |a :: os,a' :: os',m :: ns,k,0,n,o,o',h,h1,h2,h3,h4=>by
  simp at h1 h2 h4;subst h1;subst h2;subst h4;simp only[uU,h3,af]at h;have:=bz h.1;omega
 |a :: os,a' :: os',m :: ns,k,i+1,n,o,o',h,h1,h2,h3,h4=>by
  simp only[uU,af]at h;have:=BV h.2 (by simpa using h1) (by simpa using h2) h3 (by simpa using h4);omega
def Eh:∀{l:List Ob} {o:Ob} {t:Ty},sA l=true->o∈l->o≠.tok t
 |[],_,_,_,h=>by simp at h
 |a :: r,o,t,h,ho=>by
  rcases ag.1 ho with e|ho
  ·subst e;intro e;subst e;simp[sA]at h
  ·exact Eh (by cases a <;> simp_all [sA]) ho
def yl{S:bI}{F:Nat->Value->Prop}:∀{cls:List Cl} {x:CD cls} {vs:List Value},s9 eT S F cls x vs->gI cls x
 |[],_,_,_=>trivial
 |.d t :: r,x,v :: vs,h=>⟨h.1.wf,yl h.2⟩
 |.obj k :: r,x,v :: vs,h=>yl (cls:=r) h.2
 |.gW :: r,x,v :: vs,h=>yl (cls:=r) h.2
def uV{S:bI}{F:Nat->Value->Prop}:∀{cls:List Cl} {x:CD cls} {vs:List Value},s9 eT S F cls x vs->vs.length=cls.length
 |[],_,_,h=>by rw[show _=[]from h];rfl
 |.d t :: r,x,v :: vs,h=>by simp[uV h.2]
 |.obj k :: r,x,v :: vs,h=>by simp[uV (cls:=r) h.2]
 |.gW :: r,x,v :: vs,h=>by simp[uV (cls:=r) h.2]
def uW{O:aH}{loc:Nat->Loc}{w:World}:∀(cls:List Cl) (xs:List cO) {st:St},Good eT X (aA O st loc w)->
  Tr (aA O st loc w) (aA O (kA cls st xs).2 loc w)/\Good eT X (aA O (kA cls st xs).2 loc w)/\(kA cls st xs).2.env=st.env/\
   ∀vs,cP eT (aA O st loc w) xs vs->cP eT (aA O (kA cls st xs).2 loc w) (kA cls st xs).1 vs:=by
 intro cls;induction cls with
 |nil=>intro xs st g;exact⟨Tr.refl _,g,rfl,fun vs h=>h⟩
 |cons cl r ih=>
  intro xs st g;cases xs with
  |nil=>cases cl <;> exact⟨Tr.refl _,g,rfl,fun vs h=>h⟩
  |cons x xs=>
   cases cl with
   |d t=>
    have g':Good (Cx.mk eT [] [] [] 0 [] [] [] false [] []).eT X (aA O st loc w):=g;obtain⟨t1,g1,e1,k1⟩:=uT g' x;obtain⟨t2,g2,e2,k2⟩:=ih xs g1;refine⟨t1.trans t2,g2,e2.trans e1,fun vs h =>?_⟩;cases h with
    |cons h1 h3=>exact .cons ((k1 _ h1).tr t2) (k2 _ (h3.tr t1))
   |obj k=>
    obtain⟨t2,g2,e2,k2⟩:=ih xs g;refine⟨t2,g2,e2,fun vs h =>?_⟩;cases h with
    |cons h1 h3=>exact .cons (h1.tr t2) (k2 _ h3)
   |gW=>
    obtain⟨t2,g2,e2,k2⟩:=ih xs g;refine⟨t2,g2,e2,fun vs h =>?_⟩;cases h with
    |cons h1 h3=>exact .cons (h1.tr t2) (k2 _ h3)
end
section
variable{X:Ext}{P:Program}{aN:List Ob}{args:List Cl}
def BW{a:CD args}{x:PD aN}{ν:List Nat}{st:St}{K:SV->St->VC}:∀{alts:List (Alt aN args)},(wP a x ν st K alts).holds->∀al∈alts,(Gb al a x ν st K).holds
 |[],_,al,h=>by simp at h
 |[al0],h,al,ha=>by simp at ha;subst ha;exact h
 |al0 :: al1 :: r,h,al,ha=>by
  rcases ag.1 ha with e|ha
  ·subst e;exact h.1
  ·exact BW h.2 al ha
def Ei{a:CD args}{x:PD aN}{vs:List cO}{st:St}:∀{alts:List (Alt aN args)},(sG a x vs st alts).holds->∃al∈alts,∃ν,
  nodupB ν=true/\uU 0 aN al.bN ν=true/\(al.cv=false\/(sA aN=true/\gC al.bN=true/\jI al.res=true))/\al.ok a x/\
  lU al.cv (kA al.res st vs).2.aF al.bN ν al.res (kA al.res st vs).1=some (al.ret a x)/\eE al.cv (kA al.res st vs).2.aF al.bN ν al.bN ν=some (al.out a x)/\
  (∀p∈mg al.bN (al.out a x) al.res (kA al.res st vs).1,p)/\(∀p∈iM al.bN (al.out a x) (kA al.res st vs).2.aF al.bN ν,p)
 |[],h=>h.elim
 |al :: r,h=>by
  have rest:(sG a x vs st r).holds->∃al'∈al :: r,∃ν,
    nodupB ν=true/\uU 0 aN al'.bN ν=true/\(al'.cv=false\/(sA aN=true/\gC al'.bN=true/\jI al'.res=true))/\al'.ok a x/\
    lU al'.cv (kA al'.res st vs).2.aF al'.bN ν al'.res (kA al'.res st vs).1=some (al'.ret a x)/\eE al'.cv (kA al'.res st vs).2.aF al'.bN ν al'.bN ν=some (al'.out a x)/\
    (∀p∈mg al'.bN (al'.out a x) al'.res (kA al'.res st vs).1,p)/\(∀p∈iM al'.bN (al'.out a x) (kA al'.res st vs).2.aF al'.bN ν,p):=fun h=>by
   obtain⟨al',h1,h2⟩:=Ei h;exact⟨al',by simp[h1],h2⟩
  simp only[sG]at h;split at h
  ·rename_i ν hν
   split at h
   ·rename_i b y hc hb hy
    simp only[af,bq,cf]at hc;obtain⟨h1,h2,h3⟩:=hc;have hall:=uJ h;have k3:al.ok a x/\y=al.out a x/\b=al.ret a x:=hall _ (ej _ (by simp));obtain⟨k4,k5,k6⟩:=k3;subst k5;subst k6;obtain⟨k1,_⟩:=jf.1 hall;obtain⟨k1,k2⟩:=jf.1 k1;exact⟨al,by simp,ν,h1,h2,h3,k4,hb,hy,k1,k2⟩
   ·exact rest h
  ·exact rest h
def Ej{B:Cx}{f:FuncId}{pre:CD args->PD aN->Prop}{alts:List (Alt aN args)}
  {O:aH}{st:St}{loc:Nat->Loc}{w:World}{Xy:List cO}{vs:List Value}{K:SV->St->VC}(g:Good B.eT X (aA O st loc w))(hO:eS O w)(ha:cP B.eT (aA O st loc w) Xy vs)
  {ν:List Nat}{a:CD args}{x:PD aN}(hnd:nodupB ν=true)(hga:lU false st.aF aN ν args Xy=some a)(hx:eE false st.aF aN ν aN ν=some x)
  (hp1:∀p∈mg aN x args Xy,p)(hp2:∀p∈iM aN x st.aF aN ν,p)(hpre:pre a x)(hK:(wP a x ν st K alts).holds)
  (hcall:gI args a->∀(O':aH) (loc0:Nat->Loc),Good B.eT X (aA O' (kC aN args a x) loc0 w)->eS O' w->cP B.eT (aA O' (kC aN args a x) loc0 w) (wD (iq aN x (upto 0 aN.length)) args a) vs->vs.length=args.length->
   Calls P f vs.toArray w fun e w'=>∃rs us' st' locE,e=.returned (uS us')/\(sG a x rs st' alts).holds/\cP B.eT (aA O' st' locE w') rs us'/\Good B.eT X (aA O' st' locE w')/\Tr (aA O' (kC aN args a x) loc0 w) (aA O' st' locE w')) :
  Calls P f vs.toArray w fun e w'=>∃v sv st' loc',e=.returned v/\(K sv st').holds/\st'.env=st.env/\Good B.eT X (aA O st' loc' w')/\
   Tr (aA O st loc w) (aA O st' loc' w')/\dI B.eT (aA O st' loc' w') sv v:=by
 have hvals:=D3 g hx hga ha hp1;have hobsl:=pg hx
 let us:=upto 0 aN.length
 have hul:ν.length=us.length:=by rw[uK];exact hobsl.symm
 let O':aH:=fun b off=>O b off\/∃n oc,look st.aF n=some oc/\n∉ν/\b∈(loc n).bs/\oc.lo<=off
 let st0:=kC aN args a x
 have hOin':eS O' w:=by
  rintro b off (h|⟨n,oc,h1,_,h2,_⟩)
  ·exact hO b off h
  ·exact(g.obj n oc h1).2.inside b h2
 have hlo:∀n∈ν,∀oc,look st.aF n=some oc->sA aN=true->oc.lo=0:=by
  intro n hn oc h1 h2;obtain⟨o,oc',y,k1,k2,k3⟩:=mw hx hn;rw[h1]at k2;cases k2;have:=(lJ k3 (fun _ =>.any)).2.2.2 (fun t=>Eh h2 k1) rfl;cases oc <;> first|rfl|exact(this _ _ rfl).elim
 have hν:∀n∈ν,∃oc,look st.aF n=some oc:=fun n hn=>let⟨_,oc,_,_,k,_⟩:=mw hx hn;⟨oc,k⟩
 let loc0:=fH us (ν.map loc) loc
 have hf0:∀k oc,look st0.aF k=some oc->∃(i n:Nat) (o:Ob) (y:OD o) (oc0:OC),ν[i]?=some n/\us[i]?=some k/\aN[i]?=some o/\look st.aF n=some oc0/\jV false st.aF aN ν o oc0=some y/\oc=qN (iq aN x us) o y/\loc0 k=loc n:=by
  intro k oc hk;obtain⟨i,n,o,y,oc0,k1,k2,k3,k4,k5,k6,_⟩:=q7 hx (qZ (X:=X) g hx hx hp2) hul hk;exact⟨i,n,o,y,oc0,k1,k2,k3,k4,k5,k6,kM (kO _ _) k2 (by simp[k1])⟩
 have hA0:∀b o,(aA O' st0 loc0 w).A b o->(aA O st loc w).A b o:=by
  rintro b off ((h|⟨n,oc,h1,_,h2,h3⟩)|⟨k,oc,h1,h2,h3⟩)
  ·exact .inl h
  ·exact .inr ⟨n,oc,h1,h2,h3⟩
  ·obtain⟨i,n,o,y,oc0,_,_,_,k4,k5,k6,k7⟩:=hf0 k oc h1
   refine .inr ⟨n,oc0,k4,by simp only[aA]at h2;rw[k7]at h2;exact h2,?_⟩;rcases Dd (f:=iq aN x us) k5 with e|e
   ·rw[<-e,<-k6];exact h3
   ·cases e
 have hown0:∀b,(aA O' st0 loc0 w).owns b->∃n∈ν,b∈(loc n).bs:=by
  rintro b ⟨k,oc,h1,h2⟩;obtain⟨i,n,o,y,oc0,k1,_,_,_,_,_,k7⟩:=hf0 k oc h1;exact⟨n,br k1,by simp only[aA]at h2;rw[k7]at h2;exact h2⟩
 obtain⟨g0,laid0⟩:=Mf (X:=X) g hx hp2 hnd (O2:=O') (ν2:=us) (rest:=[]) (locR:=loc) (st2:=st0) (kO _ _) hul
  (by simp[st0,kC,us]) (fun n hn=>by have:=rN hn;simp[st0,kC];omega)
  (fun n hn b hb off=>by
   obtain⟨oc,k⟩:=hν n hn;rintro(h|⟨m,oc',h1,h2,h3,_⟩)
   ·exact g.out n oc b off k hb h
   ·exact h2 (by rw[<-g.apart n m oc oc' b k h1 hb h3];exact hn))
  (fun n hn b hb m oc h=>by simp[look]at h) (fun m oc h=>by simp[look]at h) (fun m m' oc oc' b h=>by simp[look]at h) (fun m oc b off h=>by simp[look]at h) (.inr hA0)
  (fun b hb h=>by
   obtain⟨n,hn,hbn⟩:=hown0 b h;obtain⟨oc,k⟩:=hν n hn;exact g.kW.2 b hb ⟨n,oc,k,hbn⟩)
 have hargs:cP B.eT (aA O' st0 loc0 w) (wD (iq aN x us) args a) vs:=GZ (S:=aA O st loc w) (S':=aA O' st0 loc0 w) rfl (fun k v hk=>BK laid0 hk) (.inr hA0) hvals;have hcalls:=hcall (yl hvals) O' loc0 g0 hOin' hargs (uV hvals);refine hcalls.mono ?_;rintro e w' ⟨rs,us',st',locE,he,hk,hr,gE',trE'⟩;obtain⟨al,hal,ν',hnd',hkept,hcv,hokal,hret,hout,hc1,hc2⟩:=Ei hk;obtain⟨tF,gE,_,kF⟩:=uW al.res rs gE';generalize hst2:(kA al.res st' rs).2=st2 at*;generalize hrs2:(kA al.res st' rs).1=rs2 at*;have trE:=trE'.trans tF;have hrE:=kF us' hr;have hKal:=BW hK al hal;unfold Gb at hKal;split at hKal
 case h_2=>exact hKal.elim
 rename_i hn1;simp only[af]at hn1;obtain⟨hnd1,hbel⟩:=hn1;have hKal:=hKal hokal;generalize hν1:mF aN al.bN ν st.next=ν1 at*;have hl1:ν'.length=ν1.length:=by rw[<-hν1,pT];exact(pg hout).symm
 generalize hst1:({env:=st.env,aF:=lT (iq al.bN (al.out a x) ν1) al.bN (al.out a x) ν1++qA st.aF ν,next:=st.next+al.bN.length}:St)=st1 at hKal;have h1env:st1.env=st.env:=by rw[<-hst1]
 have h1objs:st1.aF=lT (iq al.bN (al.out a x) ν1) al.bN (al.out a x) ν1++qA st.aF ν:=by rw[<-hst1]
 have h1next:st1.next=st.next+al.bN.length:=by rw[<-hst1]
 let loc1:=fH ν1 (ν'.map locE) loc
 have hf1:∀m oc,look st1.aF m=some oc->(∃(i n:Nat) (o:Ob) (y:OD o) (oc0:OC),ν'[i]?=some n/\ν1[i]?=some m/\al.bN[i]?=some o/\look st2.aF n=some oc0/\jV al.cv st2.aF al.bN ν' o oc0=some y/\
   oc=qN (iq al.bN (al.out a x) ν1) o y/\loc1 m=locE n)\/(m∉ν1/\m∉ν/\look st.aF m=some oc/\loc1 m=loc m):=by
  intro m oc hm;rw[h1objs,eM]at hm;split at hm
  ·rename_i oc' hm'
   cases hm;obtain⟨i,n,o,y,oc0,k1,k2,k3,k4,k5,k6,_⟩:=q7 hout (qZ (X:=X) gE hout hout hc2) hl1 hm';exact .inl ⟨i,n,o,y,oc0,k1,k2,k3,k4,k5,k6,kM hnd1 k2 (by simp[k1])⟩
  ·rename_i hm'
   have hnin:m∉ν1:=fun hmem=>by
    obtain⟨oc1,h2⟩:=qv (f:=iq al.bN (al.out a x) ν1) (x:=al.out a x) (by rw[<-hν1,pT]) hmem;rw[h2]at hm';cases hm'
   rw[my]at hm;split at hm
   ·cases hm
   ·rename_i hmn
    exact .inr ⟨hnin,hmn,hm,oR hnin⟩
 have hownE:∀n∈ν',∀b∈(locE n).bs,(aA O' st2 locE w').owns b:=by
  intro n hn b hb;obtain⟨_,oc,_,_,k,_⟩:=mw hout hn;exact⟨n,oc,k,hb⟩
 have hblk:∀m oc,look st.aF m=some oc->m∉ν->∀b∈(loc m).bs,¬(aA O' st0 loc0 w).owns b:=by
  intro m oc h1 h2 b hb' ho;obtain⟨n,hn,hbn⟩:=hown0 b ho;obtain⟨oc',k⟩:=hν n hn;have:=g.apart n m oc' oc b k h1 hbn hb';exact h2 (by rw[<-this];exact hn)
 have hA1:al.cv=false->∀b o,(aA O st1 loc1 w').A b o->(aA O' st2 locE w').A b o:=by
  rintro hcv0 b off (h|⟨m,oc,h1,h2,h3⟩)
  ·exact .inl (.inl h)
  ·rcases hf1 m oc h1 with⟨i,n,o,y,oc0,k1,k2,k3,k4,k5,k6,k7⟩|⟨k1,k2,k3,k4⟩
   ·refine .inr ⟨n,oc0,k4,by simp only[aA]at h2;rw[k7]at h2;exact h2,?_⟩
    rcases Dd (f:=iq al.bN (al.out a x) ν1) k5 with e|e
    ·rw[<-e,<-k6];exact h3
    ·rw[hcv0]at e;cases e
   ·exact .inl (.inr ⟨m,oc,k3,k2,by simp only[aA]at h2;rw[k4]at h2;exact h2,h3⟩)
 have hkeep:∀(m i:Nat),ν1[i]?=some m->m<st.next->∃o o',aN[i]?=some o/\al.bN[i]?=some o'/\lg o o'=true/\ν[i]?=some m:=by
  intro m i h1 h2;rw[<-hν1]at h1;rcases qB h1 with h3|h3
  ·exact h3
  ·omega
 have hT:Tr (aA O st loc w) (aA O st1 loc1 w'):={
  O:=rfl
  next:=by simp only[aA];omega
  os:=trE.os
  output:=trE.output
  size:=trE.size
  own:=by
   rintro b ⟨m,oc,h1,h2⟩;rcases hf1 m oc h1 with⟨i,n,o,y,oc0,k1,k2,k3,k4,k5,k6,k7⟩|⟨k1,k2,k3,k4⟩
   ·simp only[aA]at h2;rw[k7]at h2
    rcases trE.own b (hownE n (br k1) b h2)with h3|h3
    ·obtain⟨n',hn',hb'⟩:=hown0 b h3
     obtain⟨oc',k⟩:=hν n' hn';exact .inl ⟨n',oc',k,hb'⟩
    ·exact .inr h3
   ·simp only[aA]at h2;rw[k4]at h2;exact .inl ⟨m,oc,k3,h2⟩
  cell:=by
   intro b off v hna hcell;obtain⟨h1,h2⟩:=trE.cell b off v (fun h=>hna (hA0 b off h)) hcell;refine⟨h1,fun h3 =>?_⟩;rcases hcv with hcv|⟨hnt,_,_⟩
   ·exact h2 (hA1 hcv b off h3)
   ·rcases h3 with h3|⟨m,oc,h3,h4,h5⟩
    ·exact hna (.inl h3)
    ·rcases hf1 m oc h3 with⟨i,n,o,y,oc0,k1,k2,k3,k4,k5,k6,k7⟩|⟨k1,k2,k3,k4⟩
     ·simp only[aA]at h4;rw[k7]at h4
      rcases trE.own b (hownE n (br k1) b h4)with h6|h6
      ·obtain⟨n',hn',hb'⟩:=hown0 b h6
       obtain⟨oc',k⟩:=hν n' hn';exact hna (.inr ⟨n',oc',k,hb',by rw[hlo n' hn' oc' k hnt];exact ar _⟩)
      ·have:=ek _ _ hcell
       simp only[aA]at this h6;omega
     ·simp only[aA]at h4;rw[k4]at h4;exact hna (.inr ⟨m,oc,k3,h4,h5⟩)
  block:=fun b hb' ho=>trE.block b hb' fun h=>ho (by
   obtain⟨n,hn,hbn⟩:=hown0 b h;obtain⟨oc,k⟩:=hν n hn;exact⟨n,oc,k,hbn⟩)
  loc:=by
   intro m hm hfix;by_cases hin:m∈ν1
   ·obtain⟨i,hi⟩:=List.getElem?_of_mem hin
    obtain⟨o,o',e1,e2,e3,e4⟩:=hkeep m i hi hm;have hiE:i<ν'.length:=by rw[hl1];exact bG hi
    have hn':ν'[i]?=some ν'[i]:=List.getElem?_eq_getElem hiE;have hni:=BV hkept e1 e2 e3 hn';rw[dh]at hni;have e5:loc1 m=locE i:=by
     have:=kM (d:=loc) hnd1 hi (ls:=ν'.map locE) (l:=locE i) (by simp[hn',hni]);exact this
    have hui:us[i]?=some i:=by have:=Ay aN.length 0 i (bG e1);simpa using this
    have e6:loc0 i=loc m:=kM (kO _ _) hui (by simp[e4]);have e7:=trE.loc i (show i<st0.next by simp[st0,kC];exact bG e1) (fun t ys hy=>by
     obtain⟨j,n,o2,y,oc0,k1,k2,k3,k4,k5,k6,k7⟩:=hf0 i _ hy;have hj:j=i:=qw (kO _ _) k2 hui;subst hj;rw[e1]at k3;cases k3;cases o <;> simp[qN]at k6;cases o' <;> simp[lg]at e3)
    show(loc1 m).v=(loc m).v/\(_->loc1 m=loc m);rw[e5,<-e6];refine⟨e7.1,fun hr=>e7.2 fun t z hy =>?_⟩;obtain⟨j,n,o2,y,oc0,k1,k2,k3,k4,k5,k6,k7⟩:=hf0 i _ hy;have hj:j=i:=qw (kO _ _) k2 hui;subst hj;rw[e4]at k1;cases k1;cases o2 <;> simp[qN]at k6;obtain⟨rfl,rfl,_⟩:=k6;obtain⟨z',rfl⟩:=(lJ k5 (fun _ =>.any)).2.1 _ _ rfl;exact hr _ _ k4
   ·exact og (oR hin)
  kind:=by
   intro m oc' hm hob;rcases hf1 m oc' hob with⟨i,n,o,y,oc0,k1,k2,k3,k4,k5,k6,k7⟩|⟨k1,k2,k3,k4⟩
   ·obtain⟨o0,o',e1,e2,e3,e4⟩:=hkeep m i k2 hm
    rw[k3]at e2;cases e2;have hui:us[i]?=some i:=by have:=Ay aN.length 0 i (bG e1);simpa using this
    obtain⟨oc2,h2⟩:=qv (f:=iq aN x us) (x:=x) (ms:=us) (by rw[uK]) (br hui);obtain⟨j,n2,o2,y2,oc3,j1,j2,j3,j4,j5,j6,j7⟩:=hf0 i oc2 (by simpa[st0,kC]using h2);have hj:j=i:=qw (kO _ _) j2 hui;subst hj;rw[e1]at j3;cases j3;rw[e4]at j1;cases j1;refine⟨oc3,j4,?_⟩;cases o0 <;> cases o <;> simp[lg]at e3
    ·subst e3
     obtain⟨cs,rfl⟩:=(lJ j5 (fun _ =>.any)).1 _ _ rfl;rw[k6];rfl
    ·rename_i kp t kp' t'
     cases kp <;> cases kp' <;> simp at e3;have e3:=Ty.eq_of_beq e3;subst e3;obtain⟨xs,rfl⟩:=(lJ j5 (fun _ =>.any)).2.2.1 _ _ rfl rfl;rw[k6];rfl
    ·obtain⟨e3,e4⟩:=e3
     have e4:=Ty.eq_of_beq e4;subst e3;subst e4;obtain⟨z,rfl⟩:=(lJ j5 (fun _ =>.any)).2.1 _ _ rfl;rw[k6];exact⟨rfl,rfl⟩
   ·refine⟨oc',k3,?_⟩
    cases oc' <;> simp[aX,aA,k4]}
 obtain⟨g1,laid1⟩:=Mf (X:=X) gE hout hc2 hnd' (O2:=O) (ν2:=ν1) (rest:=qA st.aF ν) (locR:=loc) (st2:=st1) hnd1 hl1 h1objs
  (fun n hn=>by rw[h1next];exact qP hbel hn)
  (fun n hn b hb' off h=>by
   obtain⟨_,oc,_,_,k,_⟩:=mw hout hn;exact gE.out n oc b off k hb' (.inl h))
  (fun n hn b hb' m oc h1 h2 h3=>by
   rw[my]at h1;split at h1
   ·cases h1
   ·rename_i hmn
    rcases trE.own b (hownE n hn b hb')with h4|h4
    ·exact hblk m oc h1 hmn b h3 h4
    ·have:=(g.obj m oc h1).2.inside b h3
     simp only[aA]at this h4;omega)
  (fun m oc h1 h2=>by
   rw[my]at h1;split at h1
   ·cases h1
   ·rename_i hmn
    obtain⟨k1,k2⟩:=g.obj m oc h1;refine⟨by rw[h1next];simp only[aA]at k1;omega,k2.tr hT fun b hb' =>?_⟩;exact trE.block b (k2.inside b hb') (hblk m oc h1 hmn b hb'))
  (fun m m' oc oc' b h1 h2 _ _ h3 h4=>by
   rw[my]at h1 h2;split at h1
   ·cases h1
   ·split at h2
    ·cases h2
    ·exact g.apart m m' oc oc' b h1 h2 h3 h4)
  (fun m oc b off h1 _ h2=>by
   rw[my]at h1;split at h1
   ·cases h1
   ·exact g.out m oc b off h1 h2)
  (by
   rcases hcv with hcv|⟨_,hcv,_⟩
   ·exact .inr (hA1 hcv)
   ·exact .inl hcv)
  (g.kW.tr hT).2
 have hres:=D3 gE hout hret hrE hc1;refine⟨_,_,st1,loc1,he,hKal,h1env,g1,hT,wO (GZ (S:=aA O' st2 locE w') (S':=aA O st1 loc1 w') rfl (fun k v hk=>BK laid1 hk) ?_ hres)⟩;rcases hcv with hcv|⟨_,_,hcv⟩
 ·exact .inr (hA1 hcv)
 ·exact .inl hcv
def Sk{B:Cx}{Γ:List (FuncId×(Bool×aT))}(hok:bO P B X Γ){f:FuncId}{fn:Func}{c:Code}(hf:P.funcs[f]?=some fn)(hb:fn.body=some c)(hN:args.length<=fn.ntmps){anns:CD args->PD aN->dY}
  {pre:CD args->PD aN->Prop}{alts:List (Alt aN args)}(h:∀a x,gI args a->pre a x->(cR B Γ fn (anns a x) aN args alts a x).holds)
  {O:aH}{st:St}{loc:Nat->Loc}{w:World}{Xy:List cO}{vs:List Value}{K:SV->St->VC}(g:Good B.eT X (aA O st loc w))(hO:eS O w)(ha:cP B.eT (aA O st loc w) Xy vs)
  {ν:List Nat}{a:CD args}{x:PD aN}(hnd:nodupB ν=true)(hga:lU false st.aF aN ν args Xy=some a)(hx:eE false st.aF aN ν aN ν=some x)
  (hp1:∀p∈mg aN x args Xy,p)(hp2:∀p∈iM aN x st.aF aN ν,p)(hpre:pre a x)(hK:(wP a x ν st K alts).holds) :
  Calls P f vs.toArray w fun e w'=>∃v sv st' loc',e=.returned v/\(K sv st').holds/\st'.env=st.env/\Good B.eT X (aA O st' loc' w')/\
   Tr (aA O st loc w) (aA O st' loc' w')/\dI B.eT (aA O st' loc' w') sv v:=by
 refine Ej (B:=B) (pre:=pre) g hO ha hnd hga hx hp1 hp2 hpre hK fun hwf O' loc0 g0 hOin' hargs hlen =>?_
 have hcode:codeOf fn=c:=by unfold codeOf;rw[hb];rfl
 have hvc:=h a x hwf hpre;unfold cR at hvc;rw[hcode]at hvc;exact tg (X:=X) (hok fn.ntmps) hf hb (by rfl) (anns a x) (O:=O') (loc:=loc0) (w:=w) (args:=vs.toArray) (st:=kC aN args a x)
  (by rw[di,hlen];exact hN) g0 hOin'
  (fun t sv ht=>by
   obtain⟨_,v,k1,k2⟩:=th 0 hargs t sv ht;exact⟨v,by simpa using k1,k2⟩) hvc
def bE{B:Cx}{Γ:List (FuncId×(Bool×aT))}(hok:bO P B X Γ){f:FuncId}{fn:Func}(hf:P.funcs[f]?=some fn)(hg:pk fn args.length=true)(anns:CD args->PD aN->dY)
  {pre:CD args->PD aN->Prop}{alts:List (Alt aN args)}(h:∀a x,gI args a->pre a x->(cR B Γ fn (anns a x) aN args alts a x).holds) :
  bX P B.eT X f false (aV aN args pre alts):=by
 simp only[pk,af,cf]at hg;obtain⟨⟨h1,h2⟩,h3⟩:=hg;obtain⟨c,hc⟩:=dj.1 h1;refine⟨⟨fn,hf,by rw[hc];rfl,h2⟩,fun O st loc w Xy vs K hK g hO ha =>?_⟩;unfold aV at hK;obtain⟨t1,g1,e1,k1⟩:=uW args Xy g;simp only at hK;split at hK
 case h_2=>exact hK.elim
 rename_i ν hν;split at hK
 case h_2=>exact hK.elim
 rename_i a x hnd hga hx;obtain⟨hp,hpre,hK⟩:=Aw hK;obtain⟨hp1,hp2⟩:=jf.1 hp;refine(Sk hok hf hc (en h3) h g1 hO (k1 vs ha) hnd hga hx hp1 hp2 hpre hK).mono ?_;rintro e w' ⟨v,sv,st',loc',q1,q2,q3,q4,q5,q6⟩;exact⟨v,sv,st',loc',q1,q2,q3.trans e1,(fun hq=>by cases hq),q4,t1.trans q5,q6⟩
end
end Go.Vg

namespace Go.Vg
@[reducible] def aS:Ty:=.prod .str (.prod (.int .i64) (.prod .bool .unit))
@[reducible] def aZ:Ty:=.prod (.int .i64) (.prod (.int .i64) .unit)
@[reducible] def bC:Ty:=.prod (.int .i64) (.prod (.int .i64) (.prod (.int .i64) (.prod .str (.prod .bool .unit))))
@[reducible] def aR:Ty:=.prod (.int .i64) (.prod (.int .i64) (.prod (.int .i64) .unit))
@[reducible] def aG:Ty:=.prod .str (.prod (.int .i64) (.prod (.int .i64) .unit))
@[reducible] def aB:Ty:=.prod (.slice .str) (.prod (.slice (.int .i64)) (.prod (.slice aS) (.prod (.slice bC) .unit)))
@[reducible] def aC:Ty:=.prod .str (.prod (.slice aG) (.prod (.slice aR) .unit))
@[reducible] def dB:Ty:=.prod .str (.prod .str (.prod .str (.prod (.int .i64) (.prod (.int .u64) (.prod aC .unit)))))
@[reducible] def jq:Ty:=.prod .str (.prod (.int .i64) (.prod (.slice (.int .i64)) .unit))
@[reducible] def jr:Ty:=.prod (.int .i64) (.prod .str .unit)
@[reducible] def Um:Ty:=.prod (.slice .str) (.prod (.slice .str) (.prod (.slice jr) (.prod (.int .i64) (.prod .bool .unit))))
theorem bl :
  (∀(p:Prop) [Decidable p],(decide p=true)=p)/\(∀(p:Prop) [Decidable p],(decide p=false)=¬p)/\
  (∀(α:Type) [BEq α] [LawfulBEq α] (a b:α),((a == b)=true)=(a=b))/\(∀(α:Type) [BEq α] [LawfulBEq α] (a b:α),((a == b)=false)=¬a=b)/\
  (∀(α:Type) [BEq α] [LawfulBEq α] (a b:α),((a != b)=true)=¬a=b)/\(∀(α:Type) [BEq α] [LawfulBEq α] (a b:α),((a != b)=false)=(a=b))/\
  (∀b:Bool,((!b)=true)=(b=false))/\(∀b:Bool,((!b)=false)=(b=true))/\(∀b:Bool,(¬b=true)=(b=false))/\(∀b:Bool,(¬b=false)=(b=true))/\
  (∀a b:Bool,((a&&b)=true)=(a=true/\b=true))/\(∀a b:Bool,((a || b)=true)=(a=true\/b=true))/\
  (∀a b:Bool,((a&&b)=false)=(a=false\/b=false))/\(∀a b:Bool,((a || b)=false)=(a=false/\b=false))/\
  (∀a b:Int,(¬a<b)=(b<=a))/\(∀a b:Int,(¬a<=b)=(b<a)):=by
 refine⟨?_,?_,?_,?_,?_,?_,?_,?_,?_,?_,?_,?_,?_,?_,?_,?_⟩ <;> intros <;> first|(simp;done)|(rename_i a b;cases a <;> cases b <;> simp)
end Go.Vg

namespace Go.Vg
open Go.RowKit
def Sl{w:World}{b i:Nat}{c:Array Value}{T:TypeId}{v:Value}(hb:w.heap[b]?=some (.cells c T (0,0))):(w.setCell ⟨b,i,none⟩ v).heap[b]?=some (.cells (c.setIfInBounds i v) T (0,0)):=by
 simp[World.setCell,Array.getElem?_modify,hb]
def UX{P:Program}{w:World}{t u ty e:TypeId}{i:TypeInfo}(ht:P.underlying t=some (.slice e))(hu:P.underlying u=some .string)(hi:P.info? e=some i)(hz:i.zero=some (.int .u8 0))
  (hsize:i.size=1)(hby:i.bytes=1){v:Value}{xs:List Value}(hown:w.ownsRow 0 e 1 v xs.length xs)(hcap:∀a n c,v=.slice (some a) n c->0<c)(s:ByteArray)(hlen:xs.length+s.size<=140737488355328) :
  ∃v' w',(eo #[t,u] ty #[v,.string s]).run P w=.ok v' w'/\w'.ownsRow 0 e 1 v' (xs.length+s.size) (xs++ct s)/\w.grownBy w' v.ownBlock/\(∀a n c,v'=.slice (some a) n c->0<c)/\
   (∀g,v'.ownBlock=some g->v.ownBlock=some g\/w.heap.size<=g):=by
 rcases hown.2 with⟨rfl,h0⟩|⟨g,cap,cur,rfl,hbg,hg,hnc,hcm,hcs,htake⟩
 ·have hown':w.ownsRow w.heap.size e 1 (.slice none 0 0) xs.length xs:=⟨hown.1,.inl ⟨rfl,h0⟩⟩
  obtain⟨v',w',h1,h2,h3,h4⟩:=Lib.run_append_own_string (P:=P) w w.heap.size t u ty e i ht hu hi hz hsize hby _ _ _ hown' s (by unfold maxLen;omega) hlen (ak _);rcases h2.2 with⟨rfl,h6⟩|⟨g,cap,cur,rfl,k1,k2,k3,k4⟩
  ·exact⟨_,w',h1,⟨h2.1,.inl ⟨rfl,h6⟩⟩,h3,(fun a n c hh=>by cases hh),(fun g hh=>by cases hh)⟩
  ·refine⟨_,w',h1,⟨h2.1,.inr ⟨g,cap,cur,rfl,ar _,k2,k3,k4⟩⟩,h3,fun a n c hh =>?_,fun g' hh=>by cases hh;exact .inr k1⟩
   cases hh;by_cases hs:s.size=0
   ·have:=h4.2 ⟨rfl,hs⟩;cases this
   ·omega
 ·have hc0:=hcap _ _ _ rfl
  by_cases hroom:xs.length+s.size<=cap
  ·obtain⟨w',h1,h2,h3⟩:=Lib.run_append_fits_string (P:=P) w 0 t u ty e i ht hu hi hsize _ _ _ _ hown s hc0 hroom
   exact⟨_,w',h1,h2,h3,(fun a n c hh=>by cases hh;exact hc0),(fun g' hh =>.inl hh)⟩
  ·have holds:∀j u,xs[j]?=some u->w.cell? ((⟨g,0,none⟩:Addr).add j)=some u:=hown.cells (g:=g) rfl
   have hr:=Lib.run_append_grow_string (P:=P) w t u ty e i (.int .u8 0) ht hu hi hz ⟨g,0,none⟩ xs.length cap xs (by rw[hsize];simp) holds s (by omega) (by omega) (by rw[hby];exact growslice_fits (by omega) (by omega));have hge:=grownCap_ge w (xs.length+s.size) cap e;have hcm':grownCap w (xs.length+s.size) cap e<=maxLen:=grownCap_le_maxLen w (xs.length+s.size) cap e (by unfold maxLen;omega);refine⟨_,_,hr,⟨by simp[dk],.inr ⟨w.heap.size,_,_,rfl,ar _,heap_alloc_new w.drew _,hge,hcm',?_,?_⟩⟩,⟨rfl,rfl,rfl,by simp,fun k hk _=>Go.Deep.blk_alloc_lt w.drew _ k hk⟩,(fun a n c hh=>by cases hh;omega),(fun g' hh=>by cases hh;exact .inr (ak _))⟩
   ·have hz1:(bt dm 0).cells.size=1:=rfl
    simp only[Array.size_append,di,size_zeroCells,hz1,dk];omega
   ·simp only[Array.toList_append,cu]
    rw[<-cu];have:(xs++ct s).length=(xs.length+s.size)*1:=by simp[dk]
    rw[<-this];exact List.take_left
def yF{P:Program}{w w':World}{ops:Array Oper}{rest:List Oper}{o:Oper}{a:Act}{Q:Exit->Act->World->Prop}(hgd:o.guard=none)(sl x:Operand)(t u:TypeId)
  (ho:o.op=.call {callee:=.builtin .append,args:=#[sl,x],argTypes:=#[t,u]}){v v' y:Value}(hs:a.eval sl=v)(hx:a.eval x=y)
  (hr:(eo #[t,u] o.type #[v,y]).run P w=.ok v' w')(h:wpList P ops Q rest (a.put o.dst v') w'):wpList P ops Q (o :: rest) a w:=by
 refine wpList_plain hgd fun K hK =>?_
 unfold Oper.wp execOp;simp only[ho,resolve,invoke,builtin,Sem.run_bind,Sem.run_pure,ep,List.map_toArray,aj,List.map_nil,hs,hx,hr];exact hK _ _ h
structure Kept (b:Nat) (v:Value) (w w':World):Prop where
 os:w'.os=w.os
 output:w'.output=w.output
 size:w.heap.size<=w'.heap.size
 block:∀k,k<w.heap.size->k≠b->v.ownBlock≠some k->w'.heap[k]?=w.heap[k]?
structure Mt (v:Value) (w w':World):Prop where
 os:w'.os=w.os
 output:w'.output=w.output
 size:w'.heap.size=w.heap.size
 block:∀k,v.ownBlock≠some k->w'.heap[k]?=w.heap[k]?
def JF{w:World}{g n c:Nat}{m:Nat}:Mt (.slice (some ⟨g,0,none⟩) n c) w (w.drew.freeze ⟨g,0,none⟩ m):=by
 unfold World.freeze;split
 ·exact⟨rfl,rfl,rfl,fun _ _=>rfl⟩
 ·refine⟨rfl,rfl,by simp,fun k hk =>?_⟩
  have:k≠g:=fun e=>hk (by rw[e];rfl)
  simp only[Array.getElem?_modify];rw[if_neg (fun e=>this e.symm)];rfl
def rS(T e:Nat):aT:=fun args st K=>
 match args with
 |[.one (.eR n),.one (.d .str s)]=>match look st.aF n with
  |some (.ext 2 t x)=>match h:Ty.beq t kz with
   |true =>.and ((cI h x).2.1=(T:Int)/\(cI h x).2.2.1=(e:Int)/\(cI h x).1.length+s.length<=140737488355328)
     (K (.mN [.one (.d (.int .i64) (s.length:Int)),.one (.d .err .nil)]) (setObj st n (.ext 2 kz ((cI h x).1++bJ s,(T:Int),(e:Int),()))))
   |false =>.ff
  |_ =>.ff
 |_ =>.ff
def qC(T e:Nat):aT:=fun args st K=>
 match args with
 |[.one (.eR n)]=>match look st.aF n with
  |some (.ext 2 t x)=>match h:Ty.beq t kz with
   |true =>.and ((cI h x).2.1=(T:Int)/\(cI h x).2.2.1=(e:Int)) (K (.s (.one (.d .str (bytesOf (cI h x).1)))) (bA st n))
   |false =>.ff
  |_ =>.ff
 |_ =>.ff
def wQ(T e:Nat):aT:=fun args st K=>
 match args with
 |[.one (.eR n)]=>match look st.aF n with
  |some (.ext 2 t x)=>match h:Ty.beq t kz with
   |true =>.and ((cI h x).2.1=(T:Int)/\(cI h x).2.2.1=(e:Int)) (K (.s (.one (.d (.int .i64) ((cI h x).1.length:Int)))) st)
   |false =>.ff
  |_ =>.ff
 |_ =>.ff
section
variable{P:Program}{eT:TypeId}{X:Ext}{f:FuncId}
def G9{O:aH}{st:St}{loc:Nat->Loc}{w:World}(g:Good eT X (aA O st loc w)){n:Nat}{x:D kz}(hob:look st.aF n=some (.ext 2 kz x)){v:Value}(hv:CR eT (aA O st loc w) (.eR n) v) :
  ∃b p u,v=.pointer (some ⟨b,0,none⟩)/\V0 x (loc n) w b p u:=by
 obtain⟨h0,b,p,u,hD⟩:=X.Oj.1 (g.obj n _ hob).2;exact⟨b,p,u,(hv.2 _ hob rfl).trans hD.lv,hD⟩
def uX(s:List UInt8):bytesOf (bJ s)=s:=by
 induction s with
 |nil=>rfl
 |cons c r ih=>
  simp only[bytesOf,bJ,aj,dn]at ih ⊢;rw[ih];simp
def Mu{xs:List Int}(h:∀y∈xs,0<=(y:Int)/\(y:Int)<=255):bJ (bytesOf xs)=xs:=by
 induction xs with
 |nil=>rfl
 |cons y r ih=>
  have h1:=h y (by simp);have h2:=ih fun z hz=>h z (by simp[hz])
  simp only[bJ,bytesOf,dn,aj]at h2 ⊢;rw[h2];congr 1;simp only[er];omega
def Mv(s:List UInt8):∀y∈bJ s,0<=(y:Int)/\(y:Int)<=255:=by
 intro y hy;simp only[bJ,bf]at hy;obtain⟨c,_,rfl⟩:=hy;have:=c.toNat_lt;omega
def Sm{xs:List Int}(h:∀y∈xs,0<=(y:Int)/\(y:Int)<=255):xs.map (bt .u8)=(bytesOf xs).map fun c=>bt .u8 c.toNat:=by
 conv=>lhs;rw[<-Mu h]
 simp[bJ]
def BX{T e:Nat}(hfn:∃fn,P.funcs[f]?=some fn/\fn.body.isNone=false/\(fn.name == "runtime.NumGoroutine")=false)
  (H:∀(b:Nat) (p v:Value) (xs:List Value) (s:ByteArray) (w:World),w.heap[b]?=some (.cells #[p,v] T (0,0))->(p=.pointer none\/p=.pointer (some ⟨b,0,none⟩))->w.ownsRow 0 e 1 v xs.length xs->v.ownBlock≠some b->
   (∀a n c,v=.slice (some a) n c->0<c)->xs.length+s.size<=140737488355328->
   Calls P f #[.pointer (some ⟨b,0,none⟩),.string s] w fun r w'=>r=.returned (.tuple #[.int .i64 s.size,.nilIface])/\
    ∃v',w'.heap[b]?=some (.cells #[.pointer (some ⟨b,0,none⟩),v'] T (0,0))/\w'.ownsRow 0 e 1 v' (xs.length+s.size) (xs++ct s)/\v'.ownBlock≠some b/\Kept b v w w'/\
     (∀a n c,v'=.slice (some a) n c->0<c)/\(∀g,v'.ownBlock=some g->v.ownBlock=some g\/w.heap.size<=g)) :
  bX P eT X f false (rS T e):=by
 refine⟨hfn,fun O st loc w args vs K hs g hO ha =>?_⟩;unfold rS at hs;split at hs
 case h_2=>exact hs.elim
 rename_i n s;split at hs
 case h_2=>exact hs.elim
 rename_i t x hob;split at hs
 case h_2=>exact hs.elim
 rename_i ht;have ht':=Ty.eq_of_beq ht;subst ht';rw[jS]at hs;obtain⟨⟨hT,he,hlen⟩,hs⟩:=hs
 match vs,ha with
 |[v0,v1],.cons h0 (.cons h1 .nil)=>
 obtain⟨b,p,u,rfl,hD⟩:=G9 g hob h0;obtain⟨rfl,hsl⟩:=jH.1 (show CR eT _ (.d .str s) v1 from h1);have hsz:(⟨s.toArray⟩:ByteArray).size=s.length:=by simp[ByteArray.size]
 have hT':x.2.1.toNat=T:=by rw[hT];rfl
 have he':x.2.2.1.toNat=e:=by rw[he];rfl
 have hheap:=hD.heap;have hrow:=hD.row;rw[hT']at hheap;rw[he']at hrow;refine(H b p u (x.1.map (bt .u8)) ⟨s.toArray⟩ w hheap hD.ptr (by simpa using hrow) hD.ne hD.cap (by simpa[hsz]using hlen)).mono ?_;rintro r w' ⟨rfl,v',k1,k2,k3,k4,k5,k6⟩;have hlt:b<w.heap.size:=(Array.getElem?_eq_some_iff.1 hheap).1;obtain⟨tr1,g1⟩:=pJ (S:=aA O st loc w) (S':=aA O (setObj st n (.ext 2 kz (x.1++bJ s,(T:Int),(e:Int),()))) (bU loc n ⟨.pointer (some ⟨b,0,none⟩),b :: v'.ownBlock.toList⟩) w') (n:=n)
  (oc:=.ext 2 kz x) (oc':=.ext 2 kz (x.1++bJ s,(T:Int),(e:Int),())) (l':=⟨.pointer (some ⟨b,0,none⟩),b :: v'.ownBlock.toList⟩) g rfl hO hob
  (fun m=>oF st n m _) (fun _=>rfl) rfl (fun _=>⟨hD.lv.symm,fun h=>(h _ _ rfl).elim⟩) ⟨rfl,rfl⟩ k4.os k4.output k4.size
  (fun b' h1 h2=>k4.block b' h1 (fun e=>h2 (by simp only[aA];rw[hD.bs,e];simp)) (fun e=>h2 (by simp only[aA];rw[hD.bs,e];simp)))
  (fun b' o v _ ho=>by simp[OC.lo]at ho)
  (fun b' hb'=>by
   rcases ag.1 hb' with rfl|hb'
   ·exact .inl ⟨by simp only[aA];rw[hD.bs];simp,ak _⟩
   ·have hb':v'.ownBlock=some b':=by simpa using hb'
    rcases k6 b' hb' with h|h
    ·exact .inl ⟨by simp only[aA];rw[hD.bs,h];simp,ak _⟩
    ·exact .inr h)
 have g1:=g1 (X.Oj.2 ⟨rfl,b,.pointer (some ⟨b,0,none⟩),v',rfl,.inr rfl,k1,by
  have e1:x.1.map (bt .u8)++ct ⟨s.toArray⟩=(x.1++bJ s).map (bt .u8):=by rw[yM,List.map_append]
  have e2:(x.1.map (bt .u8)).length+(⟨s.toArray⟩:ByteArray).size=(x.1++bJ s).length:=by simp[hsz,bJ]
  rw[e1,e2]at k2;exact k2,rfl,k3,(fun y hy=>by
   rcases au.1 hy with h|h
   ·exact hD.u8 y h
   ·exact Mv s y h),k5⟩)
 refine⟨_,_,_,_,rfl,hs,rfl,(fun hh=>by cases hh),g1,tr1,⟨[.int .i64 (⟨s.toArray⟩:ByteArray).size,.nilIface],rfl,.cons ?_ (.cons ?_ .nil)⟩⟩
 ·refine cQ.2 ⟨by rw[hsz],?_⟩
  simp only[dp,dq,dr,dt];unfold aM at hsl;constructor <;> simp <;> omega
 ·exact nr.2 rfl
def Mw{O:aH}{st:St}{loc:Nat->Loc}{w w':World}(g:Good eT X (aA O st loc w)){n:Nat}{oc0:OC}(hn:look st.aF n=some oc0)(h0:oc0.lo=0)
  (hos:w'.os=w.os)(hout:w'.output=w.output)(hsz:w.heap.size<=w'.heap.size)(hb:∀b,b<w.heap.size->b∉(loc n).bs->w'.heap[b]?=w.heap[b]?) :
  Tr (aA O st loc w) (aA O (bA st n) loc w')/\Good eT X (aA O (bA st n) loc w'):=by
 have hob:∀m oc,look (bA st n).aF m=some oc->m≠n/\look st.aF m=some oc:=by
  intro m oc h;simp only[bA]at h;rw[lS]at h;split at h
  ·cases h
  ·rename_i hne;exact⟨fun e=>hne e.symm,h⟩
 have hA:∀b o,(aA O (bA st n) loc w').A b o->(aA O st loc w).A b o:=by
  rintro b o (h|⟨m,oc,h1,h2⟩)
  ·exact .inl h
  ·exact .inr ⟨m,oc,(hob _ _ h1).2,h2⟩
 have ht:Tr (aA O st loc w) (aA O (bA st n) loc w'):={
  O:=rfl
  next:=ak _
  os:=hos
  output:=hout
  size:=hsz
  own:=fun b h=>by obtain⟨m,oc,h1,h2⟩:=h;exact .inl ⟨m,oc,(hob _ _ h1).2,h2⟩
  cell:=fun b o v h1 h2=>by
   have hlt:=ek w _ h2;refine⟨?_,fun h=>h1 (hA b o h)⟩;show w'.cell? _=_;rw[World.cell?_of_block (w:=w) (w':=w') (a:=⟨b,o,none⟩) (hb b hlt fun hm=>h1 (.inr ⟨n,oc0,hn,hm,by rw[h0];exact ar _⟩))];exact h2
  block:=fun b h1 h2=>hb b h1 fun hm=>h2 ⟨n,oc0,hn,hm⟩
  loc:=fun _ _ _=>og rfl
  kind:=fun m oc _ h=>⟨oc,(hob _ _ h).2,by cases oc <;> simp[aX,aA]⟩}
 refine⟨ht,⟨fun m oc h =>?_,fun m1 m2 oc1 oc2 b h1 h2 h3 h4 =>?_,fun m oc b off h1 h2 =>?_,g.kW.tr ht⟩⟩
 ·obtain⟨hne,h⟩:=hob _ _ h
  obtain⟨h1,h2⟩:=g.obj m oc h;exact⟨h1,h2.tr ht fun b hbm=>hb b (h2.inside b hbm) fun hbn=>hne (g.apart m n oc oc0 b h hn hbm hbn)⟩
 ·exact g.apart m1 m2 oc1 oc2 b (hob _ _ h1).2 (hob _ _ h2).2 h3 h4
 ·exact g.out m oc b off (hob _ _ h1).2 h2
def AA{T e:Nat}(hfn:∃fn,P.funcs[f]?=some fn/\fn.body.isNone=false/\(fn.name == "runtime.NumGoroutine")=false)
  (H:∀(b:Nat) (p v:Value) (l:List UInt8) (w:World),w.heap[b]?=some (.cells #[p,v] T (0,0))->w.ownsRow 0 e 1 v l.length (l.map fun c=>bt .u8 c.toNat)->(∀a n c,v=.slice (some a) n c->0<c)->
   Calls P f #[.pointer (some ⟨b,0,none⟩)] w fun r w'=>r=.returned (.string ⟨l.toArray⟩)/\Mt v w w') :
  bX P eT X f false (qC T e):=by
 refine⟨hfn,fun O st loc w args vs K hs g hO ha =>?_⟩;unfold qC at hs;split at hs
 case h_2=>exact hs.elim
 rename_i n;split at hs
 case h_2=>exact hs.elim
 rename_i t x hob;split at hs
 case h_2=>exact hs.elim
 rename_i ht;have ht':=Ty.eq_of_beq ht;subst ht';rw[jS]at hs;obtain⟨⟨hT,he⟩,hs⟩:=hs
 match vs,ha with
 |[v0],.cons h0 .nil=>
 obtain⟨b,p,u,rfl,hD⟩:=G9 g hob h0;have hT':x.2.1.toNat=T:=by rw[hT];rfl
 have he':x.2.2.1.toNat=e:=by rw[he];rfl
 have hheap:=hD.heap;have hrow:=hD.row;rw[hT']at hheap;rw[he',Sm hD.u8,show x.1.length=(bytesOf x.1).length by simp[bytesOf]]at hrow;refine(H b p u (bytesOf x.1) w hheap hrow hD.cap).mono ?_;rintro r w' ⟨rfl,k⟩;obtain⟨tr1,g1⟩:=Mw (w':=w') g hob rfl k.os k.output (by rw[k.size];exact ak _) (fun b' _ h2=>k.block b' fun e=>h2 (by rw[hD.bs,e];simp));refine⟨_,_,_,_,rfl,hs,rfl,(fun hh=>by cases hh),g1,tr1,?_⟩;refine(jH (eT:=eT) (S:=aA O (bA st n) loc w')).2 ⟨rfl,?_⟩;rcases hrow.2 with⟨_,h⟩|⟨_,cap,_,_,_,_,h1,h2,_⟩
 ·rw[h];exact ar _
 ·unfold maxLen at h2;unfold aM;omega
def FX{T e:Nat}(hfn:∃fn,P.funcs[f]?=some fn/\fn.body.isNone=false/\(fn.name == "runtime.NumGoroutine")=false)
  (H:∀(b:Nat) (p q:Value) (a:Option Addr) (n c:Nat) (w:World),w.heap[b]?=some (.cells #[p,.slice a n c] T (0,0))->
   Calls P f #[.pointer (some ⟨b,0,none⟩)] w fun r w'=>r=.returned (.int .i64 n)/\w'=w) :
  bX P eT X f true (wQ T e):=by
 refine⟨hfn,fun O st loc w args vs K hs g hO ha =>?_⟩;unfold wQ at hs;split at hs
 case h_2=>exact hs.elim
 rename_i n;split at hs
 case h_2=>exact hs.elim
 rename_i t x hob;split at hs
 case h_2=>exact hs.elim
 rename_i ht;have ht':=Ty.eq_of_beq ht;subst ht';rw[jS]at hs;obtain⟨⟨hT,he⟩,hs⟩:=hs
 match vs,ha with
 |[v0],.cons h0 .nil=>
 obtain⟨b,p,u,rfl,hD⟩:=G9 g hob h0;have hT':x.2.1.toNat=T:=by rw[hT];rfl
 have hheap:=hD.heap;rw[hT']at hheap;obtain⟨a,c,rfl,hl⟩:∃a c,u=.slice a x.1.length c/\x.1.length<=aM:=by
  rcases hD.row.2 with⟨rfl,h⟩|⟨g',cap,cur,h,_,_,h1,h2,_⟩
  ·exact⟨none,0,by rw[h],by rw[h];exact ar _⟩
  ·exact⟨_,_,h,by unfold maxLen at h2;unfold aM;omega⟩
 refine(H b p p a x.1.length c w hheap).mono ?_;rintro r w' ⟨rfl,rfl⟩;refine⟨_,_,_,loc,rfl,hs,rfl,fun _=>Below.refl _ _,g,Tr.refl _,?_⟩;refine(cQ (eT:=eT) (S:=aA O st loc w')).2 ⟨rfl,?_⟩;unfold aM at hl;simp only[dp,dq,dr,dt];constructor <;> simp <;> omega
end
end Go.Vg

namespace Go.Mrl
open Go.Vg
def small(c:UInt8):Bool:=decide ((97:Int)<=c.toNat)&&decide ((c.toNat:Int)<=122)
def other(c:UInt8):Bool:=(decide ((48:Int)<=c.toNat)&&decide ((c.toNat:Int)<=57)) || ((c.toNat:Int) == 95)
def ko(i:Nat)(c:UInt8):Bool:=!small c&&((i:Int) == 0 || !other c)
def tT(s:List UInt8):Bool:=(ba s.length).any fun i=>ko i (dS s i)
def aO(s:List UInt8):Int:=if s.length<1\/8<s.length then 1 else if tT s=true then 3 else 0
def aI(n:Int):aL:=if n=0 then .nil else .no n
def ym:aL->Int->Bool
 |.nil,n=>n == 0
 |.no m,n=>decide (n > 0)&&m == n
 |.other,_=>false
def iA:aL->Int
 |.nil=>0
 |.no m=>m
 |.other =>-1
def eV(s:List UInt8):0<=aO s:=by
 unfold aO;split
 ·decide
 ·split <;> decide
def JG{s:List UInt8}{i:Nat}(h:i<s.length)(hb:ko i (dS s i)=true):tT s=true:=by
 simp only[tT,cw,et];exact⟨i,h,hb⟩
def Ha{s:List UInt8}(h:∀i,i<s.length->ko i (dS s i)=false):tT s=false:=by
 simp only[tT,cy,et];intro i hi;rw[h i hi];simp
def FY{s:List UInt8}(h:s.length<1\/8<s.length):aO s=1:=by unfold aO;rw[if_pos h]
def BY{s:List UInt8}{i:Nat}(h:¬(s.length<1\/8<s.length))(hi:i<s.length)(hb:ko i (dS s i)=true):aO s=3:=by
 unfold aO;rw[if_neg h,if_pos (JG hi hb)]
def Dg{s:List UInt8}(h:¬(s.length<1\/8<s.length))(hb:∀i,i<s.length->ko i (dS s i)=false):aO s=0:=by
 unfold aO;rw[if_neg h,if_neg (by rw[Ha hb];decide)]
def Ek{i:Nat}{c:UInt8}:ko i c=true↔¬(97<=c.toNat/\c.toNat<=122)/\(i=0\/¬((48<=c.toNat/\c.toNat<=57)\/c.toNat=95)):=by
 simp only[ko,small,other,af,cf,Bool.and_eq_false_iff,bq,du,decide_eq_false_iff_not,beq_iff_eq,beq_eq_false_iff_ne];omega
def JH{i:Nat}{c:UInt8}:ko i c=false↔¬(¬(97<=c.toNat/\c.toNat<=122)/\(i=0\/¬((48<=c.toNat/\c.toNat<=57)\/c.toNat=95))):=by
 rw[<-Ek];simp
def Sn{s:List UInt8}{i:Nat}(h:∀j,j<i->ko j (dS s j)=false)(hb:ko i (dS s i)=false):∀j,j<i+1->ko j (dS s j)=false:=by
 intro j hj;rcases bg j i with hlt|hge
 ·exact h j hlt
 ·obtain rfl:j=i:=by omega
  exact hb
def ia(p:D aS->Prop)(l:List (D aB))(i k:Nat):Prop:=
 i<l.length/\k<(nth aB l i).2.2.1.length/\p (nth aS (nth aB l i).2.2.1 k)
def yY(s:List UInt8)(x:D aS):Prop:=x.1=s
def nC(s:List UInt8)(x:D aS):Prop:=x.1=s/\x.2.2.1=false
def ahead(i k i' k':Nat):Prop:=i<i'\/(i=i'/\k<k')
def wR(p:D aS->Prop)(l:List (D aB))(i k:Nat):Prop:=∀i' k',ahead i' k' i k->¬ia p l i' k'
def mj(p:D aS->Prop)(l:List (D aB))(i k:Nat):Prop:=ia p l i k/\wR p l i k
def wS{p:D aS->Prop}{l:List (D aB)}{i k i' k':Nat}(h:mj p l i k)(h':mj p l i' k'):i=i'/\k=k':=by
 have h1:¬ahead i k i' k':=fun a=>h'.2 i k a h.1
 have h2:¬ahead i' k' i k:=fun a=>h.2 i' k' a h'.1
 unfold ahead at h1 h2;omega
def wT{p:D aS->Prop}{l:List (D aB)}{i k:Nat}(h:ia p l i k):∃i k,mj p l i k:=by
 have hi:∀n,∀i,i<=n->∀k,ia p l i k->∃i,(∃k,ia p l i k)/\∀j,j<i->∀k,¬ia p l j k:=by
  intro n;induction n with
  |zero=>intro i hi k h;exact⟨i,⟨k,h⟩,fun j hj=>by omega⟩
  |succ n ih=>
   intro i hi k h;by_cases c:∃j,j<i/\∃k,ia p l j k
   ·obtain⟨j,hj,k,hk⟩:=c
    exact ih j (by omega) k hk
   ·exact⟨i,⟨k,h⟩,fun j hj k hk=>c ⟨j,hj,k,hk⟩⟩
 obtain⟨i0,⟨k0,h0⟩,hmin⟩:=hi i i (ak _) k h;have hk:∀n,∀k,k<=n->ia p l i0 k->∃k,ia p l i0 k/\∀j,j<k->¬ia p l i0 j:=by
  intro n;induction n with
  |zero=>intro k hk h;exact⟨k,h,fun j hj=>by omega⟩
  |succ n ih=>
   intro k hk h;by_cases c:∃j,j<k/\ia p l i0 j
   ·obtain⟨j,hj,h2⟩:=c
    exact ih j (by omega) h2
   ·exact⟨k,h,fun j hj h2=>c ⟨j,hj,h2⟩⟩
 obtain⟨k1,h1,h2⟩:=hk k0 k0 (ak _) h0;refine⟨i0,k1,h1,fun i' k' ha hp =>?_⟩;rcases ha with ha|⟨rfl,ha⟩
 ·exact hmin i' ha k' hp
 ·exact h2 k' ha hp
open Classical in
def eB(x:List (D aB)×List UInt8):Int×Int:=
 if h:∃p:Nat×Nat,mj (nC x.2) x.1 p.1 p.2 then(((b9 h).1:Nat),((b9 h).2:Nat))
 else if h:∃p:Nat×Nat,mj (yY x.2) x.1 p.1 p.2 then(((b9 h).1:Nat),((b9 h).2:Nat))
 else(-1,-1)
def wU{l:List (D aB)}{s:List UInt8}{i k:Nat}(h:mj (nC s) l i k):eB (l,s)=((i:Int),(k:Int)):=by
 have hx:∃p:Nat×Nat,mj (nC s) l p.1 p.2:=⟨(i,k),h⟩
 unfold eB;rw[dif_pos hx];have:=wS h (cz hx);rw[<-this.1,<-this.2]
def BZ{l:List (D aB)}{s:List UInt8}{i k:Nat}(hn:∀i k,¬ia (nC s) l i k)(h:mj (yY s) l i k):eB (l,s)=((i:Int),(k:Int)):=by
 have hx:∃p:Nat×Nat,mj (yY s) l p.1 p.2:=⟨(i,k),h⟩
 unfold eB;rw[dif_neg (fun⟨p,h⟩=>hn p.1 p.2 h.1),dif_pos hx];have:=wS h (cz hx);rw[<-this.1,<-this.2]
def B0{l:List (D aB)}{s:List UInt8}(hn:∀i k,¬ia (yY s) l i k):eB (l,s)=(-1,-1):=by
 unfold eB;rw[dif_neg (fun⟨p,h⟩=>hn p.1 p.2 ⟨h.1.1,h.1.2.1,h.1.2.2.1⟩),dif_neg (fun⟨p,h⟩=>hn p.1 p.2 h.1)]
def JI(l:List (D aB))(s:List UInt8):(∃i k:Nat,eB (l,s)=((i:Int),(k:Int))/\mj (nC s) l i k)\/
  (∃i k:Nat,eB (l,s)=((i:Int),(k:Int))/\mj (yY s) l i k/\∀i k,¬ia (nC s) l i k)\/
  (eB (l,s)=(-1,-1)/\∀i k,¬ia (yY s) l i k):=by
 by_cases h1:∃i k,ia (nC s) l i k
 ·obtain⟨i,k,h⟩:=h1
  obtain⟨i,k,h⟩:=wT h;exact .inl ⟨i,k,wU h,h⟩
 ·have h1':∀i k,¬ia (nC s) l i k:=fun i k h=>h1 ⟨i,k,h⟩
  by_cases h2:∃i k,ia (yY s) l i k
  ·obtain⟨i,k,h⟩:=h2
   obtain⟨i,k,h⟩:=wT h;exact .inr (.inl ⟨i,k,BZ h1' h,h,h1'⟩)
  ·have h2':∀i k,¬ia (yY s) l i k:=fun i k h=>h2 ⟨i,k,h⟩
   exact .inr (.inr ⟨B0 h2',h2'⟩)
def iV(l:List (D aB))(s:List UInt8)(i k:Nat)(a b:Int):Prop:=
 wR (nC s) l i k/\((a= -1/\b= -1/\wR (yY s) l i k)\/∃i0 k0:Nat,a=i0/\b=k0/\mj (yY s) l i0 k0)
def iV.start(l:List (D aB))(s:List UInt8):iV l s 0 0 (-1) (-1):=
 ⟨fun i' k' h=>by unfold ahead at h;omega,.inl ⟨rfl,rfl,fun i' k' h=>by unfold ahead at h;omega⟩⟩
def wR.next{p:D aS->Prop}{l:List (D aB)}{i k:Nat}(h:wR p l i k)(hn:¬ia p l i k):wR p l i (k+1):=by
 intro i' k' ha hp;by_cases e:i'=i/\k'=k
 ·rw[e.1,e.2]at hp;exact hn hp
 ·exact h i' k' (by unfold ahead at*;omega) hp
def iV.skip{l:List (D aB)}{s:List UInt8}{i k:Nat}{a b:Int}(h:iV l s i k a b)(hn:¬(nth aS (nth aB l i).2.2.1 k).1=s):iV l s i (k+1) a b:=by
 refine⟨h.1.next fun hp=>hn hp.2.2.1,?_⟩;rcases h.2 with⟨h1,h2,h3⟩|h3
 ·exact .inl ⟨h1,h2,h3.next fun hp=>hn hp.2.2⟩
 ·exact .inr h3
def iV.Wo{l:List (D aB)}{s:List UInt8}{i k:Nat}{a b:Int}(h:iV l s i k a b)(hi:i<l.length)(hk:k<(nth aB l i).2.2.1.length)
  (hs:(nth aS (nth aB l i).2.2.1 k).1=s)(hw:(nth aS (nth aB l i).2.2.1 k).2.2.1=false):eB (l,s)=((i:Int),(k:Int)):=
 wU ⟨⟨hi,hk,hs,hw⟩,h.1⟩
def iV.Da{l:List (D aB)}{s:List UInt8}{i k:Nat}{a b:Int}(h:iV l s i k a b)(hi:i<l.length)(hk:k<(nth aB l i).2.2.1.length)
  (hs:(nth aS (nth aB l i).2.2.1 k).1=s)(hw:¬(nth aS (nth aB l i).2.2.1 k).2.2.1=false)(ha:a<0):iV l s i (k+1) (i:Int) (k:Int):=by
 refine⟨h.1.next fun hp=>hw hp.2.2.2,.inr ⟨i,k,rfl,rfl,⟨hi,hk,hs⟩,?_⟩⟩;rcases h.2 with⟨_,_,h3⟩|⟨i0,k0,h1,_⟩
 ·exact h3
 ·omega
def iV.more{l:List (D aB)}{s:List UInt8}{i k:Nat}{a b:Int}(h:iV l s i k a b)
  (hw:¬(nth aS (nth aB l i).2.2.1 k).2.2.1=false)(ha:¬a<0):iV l s i (k+1) a b:=by
 refine⟨h.1.next fun hp=>hw hp.2.2.2,?_⟩;rcases h.2 with⟨h1,_,_⟩|h3
 ·omega
 ·exact .inr h3
def wR.row{p:D aS->Prop}{l:List (D aB)}{i k:Nat}(h:wR p l i k)(hk:(nth aB l i).2.2.1.length<=k):wR p l (i+1) 0:=by
 intro i' k' ha hp;refine h i' k' ?_ hp;unfold ahead at*;by_cases e:i'=i
 ·subst e;have:=hp.2.1;omega
 ·omega
def iV.row{l:List (D aB)}{s:List UInt8}{i k:Nat}{a b:Int}(h:iV l s i k a b)(hk:(nth aB l i).2.2.1.length<=k):iV l s (i+1) 0 a b:=by
 refine⟨h.1.row hk,?_⟩;rcases h.2 with⟨h1,h2,h3⟩|h3
 ·exact .inl ⟨h1,h2,h3.row hk⟩
 ·exact .inr h3
def wR.all{p:D aS->Prop}{l:List (D aB)}{i k:Nat}(h:wR p l i k)(hi:l.length<=i):∀i k,¬ia p l i k:=
 fun i' k' hp=>h i' k' (by have:=hp.1;unfold ahead;omega) hp
def iV.done{l:List (D aB)}{s:List UInt8}{i k:Nat}{a b:Int}(h:iV l s i k a b)(hi:l.length<=i):eB (l,s)=(a,b):=by
 rcases h.2 with⟨rfl,rfl,h3⟩|⟨i0,k0,rfl,rfl,h3⟩
 ·exact B0 (h3.all hi)
 ·exact BZ (h.1.all hi) h3
def lY{p:Nat->Prop}{n:Nat}(h:∀j,j<n->p j)(hn:p n):∀j,j<n+1->p j:=by
 intro j hj;by_cases e:j=n
 ·rw[e];exact hn
 ·exact h j (by omega)
def yn{l:List (D aB)}{s:List UInt8}(h:0<=(eB (l,s)).1):(eB (l,s)).1<l.length/\0<=(eB (l,s)).2/\(eB (l,s)).2<(nth aB l (eB (l,s)).1.toNat).2.2.1.length/\
  (nth aS (nth aB l (eB (l,s)).1.toNat).2.2.1 (eB (l,s)).2.toNat).1=s:=by
 rcases JI l s with⟨i0,k0,e,f⟩|⟨i0,k0,e,f,n⟩|⟨e,n⟩
 ·rw[e];obtain⟨h1,h2,h3⟩:=f.1;exact⟨by simp only;omega,by simp only;omega,by simp only[dv];omega,h3.1⟩
 ·rw[e];obtain⟨h1,h2,h3⟩:=f.1;exact⟨by simp only;omega,by simp only;omega,by simp only[dv];omega,h3⟩
 ·rw[e]at h;simp at h
end Go.Mrl
namespace Go.Mrl
open Go.Vg
end Go.Mrl
namespace Go.Mrl
open Go.Vg
end Go.Mrl

namespace Go.Mrl
open Go.Vg
end Go.Mrl
namespace Go.Mrl
open Go.Vg
end Go.Mrl
namespace Go.Mrl
open Go.Vg
end Go.Mrl
namespace Go.Mrl
open Go.Vg
end Go.Mrl
namespace Go.Mrl
open Go.Vg
end Go.Mrl
namespace Go.Mrl
open Go.Vg
end Go.Mrl

namespace Go.Mrl
open Go.Vg
def ig(a b:Int×Int×Unit):Bool:=decide (a.2.1<=0) || (decide (b.2.1<=0) || (decide (a.1+a.2.1<=b.1) || decide (b.1+b.2.1<=a.1)))
def JJ{a b:Int×Int×Unit}:ig a b=true↔a.2.1<=0\/b.2.1<=0\/a.1+a.2.1<=b.1\/b.1+b.2.1<=a.1:=by simp[ig]
def wV{a b:Int×Int×Unit}:ig a b=false↔0<a.2.1/\0<b.2.1/\b.1<a.1+a.2.1/\a.1<b.1+b.2.1:=by simp[ig]
def cL(n:Int):Int:=(n+15) / 16*16
def oU(r:Int×Int×Unit):Prop:=-1000000<=r.1/\r.1<=1000000/\-1000000<=r.2.1/\r.2.1<=1000000
def iY(r:D aZ)(l:List (D aZ)):Bool:=l.all (ig r)
def lu{t:Ty}{xs:List (D t)}{i:Nat}(h:i<xs.length):xs[i]?=some (nth t xs i):=by
 rw[List.getElem?_eq_getElem h,<-ja (List.getElem?_eq_getElem h)]
def dQ{t:Ty}{xs:List (D t)}{i:Nat}(h:i<xs.length):nth t xs i∈xs:=by
 have:=lu (t:=t) h;exact br this
def fN{t:Ty}{xs:List (D t)}{x:D t}(h:x∈xs):∃i,i<xs.length/\nth t xs i=x:=by
 obtain⟨i,hi,e⟩:=dw h;exact⟨i,hi,by rw[<-e];exact ja (List.getElem?_eq_getElem hi)⟩
def B1{r:D aZ}{l:List (D aZ)}(h:∀j,j<l.length->ig r (nth aZ l j)=true):iY r l=true:=by
 unfold iY;rw[ca];intro x hx;obtain⟨i,hi,e⟩:=fN hx;rw[<-e];exact h i hi
def yZ{r:D aZ}{l:List (D aZ)}{j:Nat}(h:j<l.length)(hf:ig r (nth aZ l j)=false):iY r l=false:=by
 unfold iY;rw[c6];exact⟨_,dQ h,by rw[hf];decide⟩
def O3{r:D aZ}{l:List (D aZ)}(h:iY r l=false):∃x∈l,ig r x=false:=by
 unfold iY at h;rw[c6]at h;obtain⟨x,hx,e⟩:=h;exact⟨x,hx,by simpa using e⟩
def gy(l:List (D aZ))(many:Int):Nat->Int->Int
 |0,at_=>at_
 |n+1,at_=>if iY (at_,many,()) l=true then at_ else gy l many n (at_+16)
def gR:List (D aZ)->List Int->List Int->Option (List Int)
 |_,[],out=>some out
 |l,n :: r,out=>if 256<gy l (cL n) 40 0+cL n then none else gR (l++[(gy l (cL n) 40 0,cL n,())]) r (out++[gy l (cL n) 40 0])
def AB(s:List Int):Bool:=s.any fun(n:Int)=>decide (n<1) || decide (40<n)
def AD(l:List (D aZ)):Bool:=l.any fun(r:Int×Int×Unit)=>decide (r.1<0) || (decide (256<r.1) || (decide (r.2.1<0) || decide (256<r.2.1)))
def cM(x:List Int×List (D aZ)):List Int×aL:=
 if 6<x.1.length\/20<x.2.length then([],.no 2)else if AB x.1=true\/AD x.2=true then([],.no 1)else
  match gR x.2 x.1 []with
  |some o=>(o,.nil)
  |none=>([],.no 8)
def K5{t:Ty}{xs:List (D t)}{p:D t->Bool}{i:Nat}(h:i<xs.length)(hp:p (nth t xs i)=true):xs.any p=true:=by
 rw[cw];exact⟨_,dQ h,hp⟩
def K6{t:Ty}{xs:List (D t)}{p:D t->Bool}(h:∀i,i<xs.length->p (nth t xs i)=false):xs.any p=false:=by
 rw[cy];intro x hx;obtain⟨i,hi,e⟩:=fN hx;rw[<-e,h i hi];decide
def rT{l:List (D aZ)}{s out:List Int}{k:Nat}(h:k<s.length):gR l (s.drop k) out=
  if 256<gy l (cL (nth (.int .i64) s k)) 40 0+cL (nth (.int .i64) s k)then none
  else gR (l++[(gy l (cL (nth (.int .i64) s k)) 40 0,cL (nth (.int .i64) s k),())]) (s.drop (k+1)) (out++[gy l (cL (nth (.int .i64) s k)) 40 0]):=by
 have e:s.drop k=nth (.int .i64) s k :: s.drop (k+1):=by
  rw[eu h];congr 1;exact(ja (t:=.int .i64) (List.getElem?_eq_getElem h)).symm
 rw[e];rfl
def JK{l:List (D aZ)}{s out:List Int}{k:Nat}(h:s.length<=k):gR l (s.drop k) out=some out:=by
 rw[b3 h];rfl
def nN(r:Int×Int×Unit):Prop:=0<=r.1/\r.1<=256/\0<=r.2.1/\r.2.1<=256
def nN.oU{r:Int×Int×Unit}(h:nN r):Mrl.oU r:=by
 obtain⟨h1,h2,h3,h4⟩:=h;refine⟨?_,?_,?_,?_⟩ <;> omega
def O4{l:List (D aZ)}{at_ many:Int}(hl:∀x∈l,nN x)(h:iY (at_,many,()) l=false):at_<512:=by
 obtain⟨x,hx,e⟩:=O3 h;obtain⟨h1,h2,h3,h4⟩:=hl x hx;obtain⟨h5,h6,h7,h8⟩:=wV.1 e;have h8:at_<x.1+x.2.1:=h8;omega
def qg{l:List (D aZ)}{many at_:Int}{n:Nat}(h:iY (at_,many,()) l=true):gy l many n at_=at_:=by
 cases n with
 |zero=>rfl
 |succ n=>rw[gy,if_pos h]
def El{l:List (D aZ)}{many at_:Int}{n:Nat}(h:iY (at_,many,()) l=false):gy l many (n+1) at_=gy l many n (at_+16):=by
 rw[gy,if_neg (by rw[h];decide)]
def ly{n:Int}(h1:1<=n)(h2:n<=40):16<=cL n/\cL n<=48:=by unfold cL;omega
end Go.Mrl
namespace Go.Mrl
open Go.Vg
def y5{s:List Int}{l:List (D aZ)}(h:6<s.length\/20<l.length):cM (s,l)=([],.no 2):=by
 unfold cM;rw[if_pos h]
def y7{s:List Int}{l:List (D aZ)}(h:¬(6<s.length\/20<l.length)){i:Nat}(hi:i<s.length)(hb:¬(1<=(nth (.int .i64) s i:Int)/\(nth (.int .i64) s i:Int)<=40)):cM (s,l)=([],.no 1):=by
 unfold cM;rw[if_neg h,if_pos];refine .inl (K5 (t:=.int .i64) hi ?_);simp only[bq,decide_eq_true_eq];generalize nth (.int .i64) s i=x at hb;have hb:¬(1<=(x:Int)/\(x:Int)<=40):=hb;dsimp only[D]at*;omega
def wW{s:List Int}{l:List (D aZ)}(h:¬(6<s.length\/20<l.length)){i:Nat}(hi:i<l.length)(hb:¬nN (nth aZ l i)):cM (s,l)=([],.no 1):=by
 unfold cM;rw[if_neg h,if_pos];refine .inr (K5 (t:=aZ) hi ?_);simp only[bq,decide_eq_true_eq];unfold nN at hb;dsimp only[D]at*;omega
def wX{s:List Int}{l:List (D aZ)}(h:¬(6<s.length\/20<l.length))(hs:∀j,j<s.length->1<=(nth (.int .i64) s j:Int)/\(nth (.int .i64) s j:Int)<=40)(ht:∀j,j<l.length->nN (nth aZ l j)) :
  cM (s,l)=match gR l s []with|some o=>(o,.nil)|none=>([],.no 8):=by
 unfold cM;rw[if_neg h,if_neg];rintro(e|e)
 ·have:AB s=false:=K6 (t:=.int .i64) fun i hi=>by
   have:=hs i hi;simp only[du,decide_eq_false_iff_not];dsimp only[D]at*;omega
  rw[this]at e;cases e
 ·have:AD l=false:=K6 (t:=aZ) fun i hi=>by
   have:=ht i hi;unfold nN at this;simp only[du,decide_eq_false_iff_not];dsimp only[D]at*;omega
  rw[this]at e;cases e
end Go.Mrl
namespace Go.Mrl
open Go.Vg
def Sp{l:List (Int×Int×Unit)}{r:Int×Int×Unit}(h:∀y∈l,nN y)(hr:nN r):∀y∈l++[r],nN y:=by
 intro y hy;rcases au.1 hy with hy|hy
 ·exact h y hy
 ·simp at hy;rw[hy];exact hr
end Go.Mrl
namespace Go.Mrl
open Go.Vg
end Go.Mrl
namespace Go.Mrl
open Go.Vg
end Go.Mrl

namespace Go.Mrl
open Go.Vg
def JL{t:Ty}{a b:List (D t)}(hl:a.length=b.length)(h:∀i,i<a.length->nth t a i=nth t b i):a=b:=by
 apply List.ext_getElem hl;intro i h1 h2;have:=h i h1
 rwa [show nth t a i=a[i]from ja (List.getElem?_eq_getElem h1),show nth t b i=b[i]from ja (List.getElem?_eq_getElem h2)]at this
def pn{t:Ty}{a b:List (D t)}{i:Nat}:nth t (a++b) i=if i<a.length then nth t a i else nth t b (i-a.length):=by
 unfold nth;simp only[List.getD_eq_getElem?_getD,List.getElem?_append];split <;> rfl
def AE{t:Ty}{a:List (D t)}{n i:Nat}(h:i<n):nth t (a.take n) i=nth t a i:=by
 unfold nth;simp only[List.getD_eq_getElem?_getD,List.getElem?_take,if_pos h]
@[reducible] def jh:Ty:=.slice (.int .i64)
@[reducible] def ml:Ty:=.slice jh
abbrev Pt:=Int×Int×Int×Unit
abbrev Ws:=List (List Int)
def tU(w:Ws)(p:Pt):Prop:=0<=p.1/\p.1<w.length/\0<=p.2.1/\p.2.1<(nth jh w p.1.toNat).length
def tj(w:Ws)(p:Pt):Ws:=w.set p.1.toNat ((nth jh w p.1.toNat).set p.2.1.toNat p.2.2.1)
def lz(w:Ws)(l:List Pt):Ws:=l.foldl tj w
open Classical in
def iW(x:Ws×List Pt):Ws×aL:=if ∀i,i<x.2.length->tU x.1 (nth aR x.2 i)then(lz x.1 x.2,.nil)else([],.no 1)
def nD{t:Ty}{l:List (D t)}{i j:Nat}{x:D t}(h:¬i=j):nth t (l.set i x) j=nth t l j:=by
 unfold nth;simp only[List.getD_eq_getElem?_getD];rw[List.getElem?_set_ne h]
def nE{t:Ty}{l:List (D t)}{i:Nat}{x:D t}(h:i<l.length):nth t (l.set i x) i=x:=by
 unfold nth;simp only[List.getD_eq_getElem?_getD];rw[List.getElem?_set_self h];rfl
def JM(w:Ws)(p:Pt):(tj w p).length=w.length:=by simp[tj]
def Sq(w:Ws)(p:Pt)(i:Nat):nth jh (tj w p) i=if i<w.length/\p.1.toNat=i then(nth jh w i).set p.2.1.toNat p.2.2.1 else nth jh w i:=by
 unfold tj;by_cases c:p.1.toNat=i
 ·subst c
  by_cases c2:p.1.toNat<w.length
  ·rw[if_pos ⟨c2,rfl⟩,nE (t:=jh) c2]
  ·rw[if_neg (fun h=>c2 h.1),List.set_eq_of_length_le (by omega)]
 ·rw[if_neg (fun h=>c h.2),nD (t:=jh) c]
def O5(w:Ws)(p:Pt)(i:Nat):(nth jh (tj w p) i).length=(nth jh w i).length:=by
 rw[Sq];split <;> simp
def qh(l:List Pt):∀w:Ws,(lz w l).length=w.length:=by
 induction l with
 |nil=>intro w;rfl
 |cons p l ih=>intro w;show(lz (tj w p) l).length=_;rw[ih,JM]
def wY(l:List Pt):∀(w:Ws) (i:Nat),(nth jh (lz w l) i).length=(nth jh w i).length:=by
 induction l with
 |nil=>intro w i;rfl
 |cons p l ih=>intro w i;show(nth jh (lz (tj w p) l) i).length=_;rw[ih,O5]
def O6(w:Ws)(l:List Pt)(p:Pt):lz w (l++[p])=tj (lz w l) p:=by simp[lz]
def lK{t:Ty}{l:List (D t)}{k:Nat}(h:k<l.length):l.take (k+1)=l.take k++[nth t l k]:=by
 rw[dx,lu h];rfl
def O7{w:Ws}{l:List Pt}{k:Nat}(h:k<l.length):tj (lz w (l.take k)) (nth aR l k)=lz w (l.take (k+1)):=by
 rw[lK (t:=aR) h,O6]
def yp{w:Ws}{l:List Pt}(h:∀i,i<l.length->tU w (nth aR l i)):iW (w,l)=(lz w l,.nil):=by unfold iW;rw[if_pos h]
def Sr{w:Ws}{l:List Pt}{i:Nat}(hi:i<l.length)(h:¬tU w (nth aR l i)):iW (w,l)=([],.no 1):=by
 unfold iW;rw[if_neg (fun hh=>h (hh i hi))]
def Ss{w:Ws}{l:List Pt}(h:(iW (w,l)).2.isNil=true):∀i,i<l.length->tU w (nth aR l i):=by
 unfold iW at h;split at h
 ·assumption
 ·cases h
def Su{w:Ws}{l:List Pt}(h:(iW (w,l)).2.isNil=true):(iW (w,l)).1.length=w.length:=by rw[yp (Ss h)];exact qh l w
def Small(x:Int):Prop:=-1000000<=x/\x<=1000000
def Word(x:Int):Prop:=-2147483648<=x/\x<=2147483647
def Un(o:D aB):Prop:=o.2.2.2.1.length<=10/\(∀i,i<o.2.2.1.length->Small (nth aS o.2.2.1 i).2.1)/\
 ∀i,i<o.2.2.2.1.length->Small (nth bC o.2.2.2.1 i).1/\Word (nth bC o.2.2.2.1 i).2.2.1
def jP(l:List (D aB)):Prop:=l.length<=8/\∀i,i<l.length->Un (nth aB l i)
def pG(b:List Int):Prop:=∀i,i<b.length->0<=(nth (.int .i64) b i:Int)/\(nth (.int .i64) b i:Int)<=256
def n7(b:List Int)(i:Nat):Int:=nth (.int .i64) b i
def fO(l:List (D aB))(b:List Int)(t:D bC):Int×aL:=
 if 0<=(eB (l,t.2.2.2.1)).1 then(n7 b (eB (l,t.2.2.2.1)).1.toNat+(nth aS (nth aB l (eB (l,t.2.2.2.1)).1.toNat).2.2.1 (eB (l,t.2.2.2.1)).2.toNat).2.1,.nil)
 else if t.2.2.2.2.1=true then(0,.nil)else(0,.no 6)
def kq(b:List Int)(i:Int)(t:D bC)(n:Int):Int×aL:=
 if t.2.1=(3:Int)then
  if n-(n7 b i.toNat+t.1)< -500\/500<n-(n7 b i.toNat+t.1)then(0,.no 7)
  else(n-(n7 b i.toNat+t.1),.nil)
 else if n< -2147483648\/2147483647<n then(0,.no 7)else(n,.nil)
def gS(l:List (D aB))(b:List Int)(i:Int)(t:D bC):Int×aL:=
 if t.2.1=(1:Int)then kq b i t (n7 b i.toNat+t.2.2.1)
 else if(fO l b t).2.isNil=true then kq b i t ((fO l b t).1+t.2.2.1)else(0,(fO l b t).2)
def n8(l:List (D aB))(b:List Int)(i:Nat):List (D bC)->List Pt->List Pt×aL
 |[],out=>(out,.nil)
 |t :: r,out=>if(gS l b i t).2.isNil=true then n8 l b i r (out++[((i:Int),t.1,(gS l b i t).1,())])else([],(gS l b i t).2)
def ox(f:List Pt->List Pt×aL)(x:List Pt×aL):List Pt×aL:=if x.2.isNil=true then f x.1 else([],x.2)
def nO(l:List (D aB))(b:List Int):List (D aB)->Nat->List Pt->List Pt×aL
 |[],_,out=>(out,.nil)
 |o :: r,i,out=>ox (nO l b r (i+1)) (n8 l b i o.2.2.2.1 out)
open Classical in
def iC(x:List (D aB)×List Int):List Pt×aL:=
 if ¬x.2.length=x.1.length then([],.no 3)else if pG x.2 then nO x.1 x.2 x.1 0 []else([],.no 1)
def iF{t:Ty}{l:List (D t)}{i:Nat}(h:i<l.length):l.drop i=nth t l i :: l.drop (i+1):=by
 rw[eu h];congr 1;have:=lu h;rw[List.getElem?_eq_getElem h]at this;exact dy this
def O8{l:List (D aB)}{b:List Int}{i:Nat}{out:List Pt}(h:i<l.length) :
  nO l b (l.drop i) i out=ox (nO l b (l.drop (i+1)) (i+1)) (n8 l b i ((nth aB l i).2.2.2.1.drop 0) out):=by
 rw[iF (t:=aB) h];rfl
def UY{l:List (D aB)}{b:List Int}{i:Nat}{out:List Pt}(h:l.length<=i):nO l b (l.drop i) i out=(out,.nil):=by
 rw[b3 h];rfl
def Wp{l:List (D aB)}{b:List Int}{i k:Nat}{ts:List (D bC)}{out:List Pt}(h:k<ts.length)(hn:(gS l b i (nth bC ts k)).2.isNil=true) :
  n8 l b i (ts.drop k) out=n8 l b i (ts.drop (k+1)) (out++[((i:Int),(nth bC ts k).1,(gS l b i (nth bC ts k)).1,())]):=by
 rw[iF (t:=bC) h,n8,if_pos hn]
def UZ{l:List (D aB)}{b:List Int}{i k:Nat}{ts:List (D bC)}{out:List Pt}{f:List Pt->List Pt×aL}(h:k<ts.length)(hn:(gS l b i (nth bC ts k)).2.isNil=false) :
  ox f (n8 l b i (ts.drop k) out)=([],(gS l b i (nth bC ts k)).2):=by
 rw[iF (t:=bC) h,n8,if_neg (by simp[hn])];unfold ox;rw[if_neg (by simp[hn])]
def U0{l:List (D aB)}{b:List Int}{i k:Nat}{ts:List (D bC)}{out:List Pt}{f:List Pt->List Pt×aL}(h:ts.length<=k):ox f (n8 l b i (ts.drop k) out)=f out:=by
 rw[b3 h];rfl
def Dh{l:List (D aB)}{b:List Int}(h:b.length=l.length)(hb:pG b):iC (l,b)=nO l b l 0 []:=by unfold iC;rw[if_neg (by simpa using h),if_pos hb]
def Sv{l:List (D aB)}{b:List Int}(h:¬b.length=l.length):iC (l,b)=([],.no 3):=by unfold iC;rw[if_pos h]
def O9{l:List (D aB)}{b:List Int}{i:Nat}(h:b.length=l.length)(hi:i<b.length)(hn:¬(0<=(nth (.int .i64) b i:Int)/\(nth (.int .i64) b i:Int)<=256)):iC (l,b)=([],.no 1):=by
 unfold iC;rw[if_neg (by simpa using h),if_neg (fun hh=>hn (hh i hi))]
def pU{b:List Int}{n:Nat}{i:Int}(hb:pG b)(hl:b.length=n)(h0:0<=i)(h1:i<n):0<=(nth (.int .i64) b i.toNat:Int)/\(nth (.int .i64) b i.toNat:Int)<=256:=hb _ (by omega)
def Pa{l:List (D aB)}{s:List UInt8}(hm:jP l)(h:0<=(eB (l,s)).1):Small (nth aS (nth aB l (eB (l,s)).1.toNat).2.2.1 (eB (l,s)).2.toNat).2.1:=by
 have hf:=yn h;exact(hm.2 _ (by omega)).2.1 _ (by omega)
def B2{l:List (D aB)}{b:List Int}{t:D bC}(h:0<=(eB (l,t.2.2.2.1)).1) :
  fO l b t=(nth (.int .i64) b (eB (l,t.2.2.2.1)).1.toNat+(nth aS (nth aB l (eB (l,t.2.2.2.1)).1.toNat).2.2.1 (eB (l,t.2.2.2.1)).2.toNat).2.1,.nil):=by unfold fO n7;rw[if_pos h]
def y8{l:List (D aB)}{b:List Int}{t:D bC}(h:(eB (l,t.2.2.2.1)).1<0)(hw:t.2.2.2.2.1=true):fO l b t=(0,.nil):=by unfold fO;rw[if_neg (by omega),if_pos hw]
def wZ{l:List (D aB)}{b:List Int}{t:D bC}(h:(eB (l,t.2.2.2.1)).1<0)(hw:t.2.2.2.2.1=false):fO l b t=(0,.no 6):=by unfold fO;rw[if_neg (by omega),if_neg (by simp[hw])]
def w4{l:List (D aB)}{b:List Int}(t:D bC)(hm:jP l)(hl:b.length=l.length)(hb:pG b) : -2000000<=(fO l b t).1/\(fO l b t).1<=2000000:=by
 by_cases h:0<=(eB (l,t.2.2.2.1)).1
 ·have h1:=pU hb hl h (yn h).1
  have h2:=Pa hm h;rw[B2 h];unfold Small at h2;dsimp only[D]at*;omega
 ·cases hw:t.2.2.2.2.1 with
  |true=>rw[y8 (by omega) hw];simp
  |false=>rw[wZ (by omega) hw];simp
def AF{l:List (D aB)}{b:List Int}{i:Int}{t:D bC}(h:t.2.1=(1:Int)):gS l b i t=kq b i t (nth (.int .i64) b i.toNat+t.2.2.1):=by unfold gS;rw[if_pos h];rfl
def yq{l:List (D aB)}{b:List Int}{i:Int}{t:D bC}(h:¬t.2.1=(1:Int))(hn:(fO l b t).2.isNil=true):gS l b i t=kq b i t ((fO l b t).1+t.2.2.1):=by unfold gS;rw[if_neg h,if_pos hn]
def U1{l:List (D aB)}{b:List Int}{i:Int}{t:D bC}(h:¬t.2.1=(1:Int))(hn:(fO l b t).2.isNil=false):gS l b i t=(0,(fO l b t).2):=by unfold gS;rw[if_neg h,if_neg (by simp[hn])]
def Sw{b:List Int}{i n:Int}{t:D bC}(h:t.2.1=(3:Int))(hr:n-(nth (.int .i64) b i.toNat+t.1)< -500\/500<n-(nth (.int .i64) b i.toNat+t.1)):kq b i t n=(0,.no 7):=by
 unfold kq n7;rw[if_pos h,if_pos hr]
def U2{b:List Int}{i n m:Int}{t:D bC}(h:t.2.1=(3:Int))(e:m=n-(nth (.int .i64) b i.toNat+t.1))(hr : -500<=m/\m<=500):kq b i t n=(m,.nil):=by
 unfold kq n7;rw[if_pos h,if_neg (by omega),e]
def Hb{b:List Int}{i n:Int}{t:D bC}(h:¬t.2.1=(3:Int))(hr:n< -2147483648\/2147483647<n):kq b i t n=(0,.no 7):=by
 unfold kq;rw[if_neg h,if_pos hr]
def Di{b:List Int}{i n m:Int}{t:D bC}(h:¬t.2.1=(3:Int))(e:m=n)(hr : -2147483648<=n/\n<=2147483647):kq b i t n=(m,.nil):=by
 unfold kq;rw[if_neg h,if_neg (by omega),e]
def Told(e:aL):Prop:=ym e (iA e)=true
def Em(b:List Int)(i n:Int)(t:D bC):Told (kq b i t n).2:=by
 unfold kq;split <;> split <;> rfl
def JN(l:List (D aB))(b:List Int)(t:D bC):Told (fO l b t).2:=by
 unfold fO;split
 ·rfl
 ·split <;> rfl
def Sx(l:List (D aB))(b:List Int)(i:Int)(t:D bC):Told (gS l b i t).2:=by
 unfold gS;split
 ·exact Em _ _ _ _
 ·split
  ·exact Em _ _ _ _
  ·exact JN _ _ _
def Hc(l:List (D aB))(b:List Int)(i:Nat):∀(ts:List (D bC)) (out:List Pt),Told (n8 l b i ts out).2
 |[],_=>rfl
 |t :: r,out=>by
  rw[n8];split
  ·exact Hc l b i r _
  ·exact Sx _ _ _ _
def Hd(l:List (D aB))(b:List Int):∀(os:List (D aB)) (i:Nat) (out:List Pt),Told (nO l b os i out).2
 |[],_,_=>rfl
 |o :: r,i,out=>by
  rw[nO];unfold ox;split
  ·exact Hd l b r _ _
  ·exact Hc _ _ _ _ _
def He(x:List (D aB)×List Int):ym (iC x).2 (iA (iC x).2)=true:=by
 unfold iC;split
 ·rfl
 ·split
  ·exact Hd _ _ _ _ _
  ·rfl
def ib(n:Int):Bool:=decide (-2147483648<=n)&&decide (n<=2147483647)
def jz:List (List UInt8)->List (List UInt8)->Int
 |_,[]=>0
 |p,s :: r=>if aO s > 0 then aO s else if p.any (· == s)=true then 3 else jz (p++[s]) r
def kQ:List Int->Int
 |[]=>0
 |n :: r=>if ib n=true then kQ r else 1
def ic(n:Nat):List (D aS)->List (D aS)->Int
 |_,[]=>0
 |p,s :: r=>if aO s.1 > 0 then aO s.1 else if s.2.1<0\/s.2.1>=(n:Int)then 1 else if p.any (fun x=>x.1 == s.1)=true then 3 else ic n (p++[s]) r
def n9(a:Int):Option Int->Bool
 |some b=>decide (a<=b)
 |none=>false
def mX(n:Nat)(prev:Option Int)(t:D bC):Int:=
 if t.1<0\/t.1>=(n:Int)\/ib t.2.2.1=false then 1
 else if t.2.1<1\/t.2.1 > 3\/n9 t.1 prev=true then 3
 else if t.2.1=1 then(if t.2.2.2.1≠[]\/t.2.2.2.2.1=true then 3 else 0)
 else aO t.2.2.2.1
def kR(n:Nat):Option Int->List (D bC)->Int
 |_,[]=>0
 |prev,t :: r=>if mX n prev t≠0 then mX n prev t else kR n (some t.1) r
def lZ(o:D aB):Prop:=o.1.length > 4\/o.2.1.length<1\/o.2.1.length > 40\/o.2.2.1.length > 8\/o.2.2.2.1.length > 6
instance(o:D aB):Decidable (lZ o):=by unfold lZ;infer_instance
def cY(o:D aB):Int:=
 if lZ o then 2 else if jz [] o.1≠0 then jz [] o.1 else if kQ o.2.1≠0 then kQ o.2.1
 else if ic o.2.1.length [] o.2.2.1≠0 then ic o.2.1.length [] o.2.2.1 else kR o.2.1.length none o.2.2.2.1
def ie{t:Ty}{l:List (D t)}{i:Nat}(h:i<l.length):l.take (i+1)=l.take i++[nth t l i]:=by
 rw[dx];congr 1;unfold nth;simp[h]
def w5(n:Nat):∀(l p:List (D aS)),0<=ic n p l
 |[],_=>az _
 |s :: r,p=>by
  unfold ic;split
  ·omega
  ·split
   ·decide
   ·split
    ·decide
    ·exact w5 n r _
structure kf (l:List (List UInt8)) (i:Nat):Prop where
 le:i<=l.length
 eq:jz (l.take i) (l.drop i)=jz [] l
def kf.zero(l:List (List UInt8)):kf l 0:=⟨ar _,rfl⟩
def kf.fault{l:List (List UInt8)}{i:Nat}(h:kf l i)(hi:i<l.length)(hf:aO (nth .str l i) > 0):jz [] l=aO (nth .str l i):=by
 rw[<-h.eq,iF (t:=.str) hi];unfold jz;rw[if_pos hf]
def kf.dup{l:List (List UInt8)}{i:Nat}(h:kf l i)(hi:i<l.length)(hf:aO (nth .str l i)<=0)(ha:(l.take i).any (· == nth .str l i)=true):jz [] l=3:=by
 rw[<-h.eq,iF (t:=.str) hi];unfold jz;rw[if_neg (by omega),if_pos ha]
def kf.next{l:List (List UInt8)}{i:Nat}(h:kf l i)(hi:i<l.length)(hf:aO (nth .str l i)<=0)(ha:(l.take i).any (· == nth .str l i)=false):kf l (i+1):=by
 refine⟨hi,?_⟩;rw[<-h.eq,iF (t:=.str) hi,ie (t:=.str) hi]
 conv=>rhs;unfold jz
 rw[if_neg (by omega),if_neg (by rw[ha];decide)]
def kf.done{l:List (List UInt8)}{i:Nat}(h:kf l i)(hi:¬i<l.length):jz [] l=0:=by
 rw[<-h.eq,b3 (by omega)];rfl
structure lA (l:List Int) (i:Nat):Prop where
 le:i<=l.length
 eq:kQ (l.drop i)=kQ l
def lA.zero(l:List Int):lA l 0:=⟨ar _,rfl⟩
def lA.fault{l:List Int}{i:Nat}(h:lA l i)(hi:i<l.length)(hf:ib (nth (.int .i64) l i)=false):kQ l=1:=by
 rw[<-h.eq,iF (t:=.int .i64) hi];unfold kQ;rw[if_neg (by rw[hf];decide)]
def lA.next{l:List Int}{i:Nat}(h:lA l i)(hi:i<l.length)(hf:ib (nth (.int .i64) l i)=true):lA l (i+1):=by
 refine⟨hi,?_⟩;rw[<-h.eq,iF (t:=.int .i64) hi]
 conv=>rhs;unfold kQ
 rw[if_pos hf]
def lA.done{l:List Int}{i:Nat}(h:lA l i)(hi:¬i<l.length):kQ l=0:=by
 rw[<-h.eq,b3 (by omega)];rfl
structure kS (n:Nat) (l:List (D aS)) (i:Nat):Prop where
 le:i<=l.length
 eq:ic n (l.take i) (l.drop i)=ic n [] l
def kS.zero(n:Nat)(l:List (D aS)):kS n l 0:=⟨ar _,rfl⟩
def kS.fault{n:Nat}{l:List (D aS)}{i:Nat}(h:kS n l i)(hi:i<l.length)(hf:aO (nth aS l i).1 > 0):ic n [] l=aO (nth aS l i).1:=by
 rw[<-h.eq,iF (t:=aS) hi];unfold ic;rw[if_pos hf]
def kS.out{n:Nat}{l:List (D aS)}{i:Nat}(h:kS n l i)(hi:i<l.length)(hf:aO (nth aS l i).1<=0)(ho:(nth aS l i).2.1<0\/(nth aS l i).2.1>=(n:Int)):ic n [] l=1:=by
 rw[<-h.eq,iF (t:=aS) hi];unfold ic;rw[if_neg (by omega),if_pos ho]
def kS.dup{n:Nat}{l:List (D aS)}{i:Nat}(h:kS n l i)(hi:i<l.length)(hf:aO (nth aS l i).1<=0)(ho:¬((nth aS l i).2.1<0\/(nth aS l i).2.1>=(n:Int)))
  (ha:(l.take i).any (fun x=>x.1 == (nth aS l i).1)=true):ic n [] l=3:=by
 rw[<-h.eq,iF (t:=aS) hi];unfold ic;rw[if_neg (by omega),if_neg ho,if_pos ha]
def kS.next{n:Nat}{l:List (D aS)}{i:Nat}(h:kS n l i)(hi:i<l.length)(hf:aO (nth aS l i).1<=0)(ho:¬((nth aS l i).2.1<0\/(nth aS l i).2.1>=(n:Int)))
  (ha:(l.take i).any (fun x=>x.1 == (nth aS l i).1)=false):kS n l (i+1):=by
 refine⟨hi,?_⟩;rw[<-h.eq,iF (t:=aS) hi,ie (t:=aS) hi]
 conv=>rhs;unfold ic
 rw[if_neg (by omega),if_neg ho,if_neg (by rw[ha];decide)]
def kS.done{n:Nat}{l:List (D aS)}{i:Nat}(h:kS n l i)(hi:¬i<l.length):ic n [] l=0:=by
 rw[<-h.eq,b3 (by omega)];rfl
def oy(l:List (D bC))(i:Nat):Option Int:=if i=0 then none else some (nth bC l (i-1)).1
structure nF (n:Nat) (l:List (D bC)) (i:Nat):Prop where
 le:i<=l.length
 eq:kR n (oy l i) (l.drop i)=kR n none l
def nF.zero(n:Nat)(l:List (D bC)):nF n l 0:=⟨ar _,rfl⟩
def nF.fault{n:Nat}{l:List (D bC)}{i:Nat}(h:nF n l i)(hi:i<l.length){f:Int}(hf:mX n (oy l i) (nth bC l i)=f)(h0:f≠0):kR n none l=f:=by
 rw[<-h.eq,iF (t:=bC) hi];unfold kR;rw[if_pos (by rw[hf];exact h0),hf]
def nF.next{n:Nat}{l:List (D bC)}{i:Nat}(h:nF n l i)(hi:i<l.length)(hf:mX n (oy l i) (nth bC l i)=0):nF n l (i+1):=by
 refine⟨hi,?_⟩;rw[<-h.eq,iF (t:=bC) hi]
 conv=>rhs;unfold kR
 rw[if_neg (by rw[hf];decide)];rfl
def nF.done{n:Nat}{l:List (D bC)}{i:Nat}(h:nF n l i)(hi:¬i<l.length):kR n none l=0:=by
 rw[<-h.eq,b3 (by omega)];rfl
def Hf{t:Ty}{l:List (D t)}{i j:Nat}{f:D t->Bool}(hj:j<i)(hi:i<=l.length)(h:f (nth t l j)=true):(l.take i).any f=true:=by
 rw[cw];refine⟨nth t l j,?_,h⟩;have:(l.take i)[j]?=some (nth t l j):=by
  rw[List.getElem?_take,if_pos hj];unfold nth;rw[List.getD_eq_getElem?_getD,List.getElem?_eq_getElem (by omega)];rfl
 exact br this
def En{t:Ty}{l:List (D t)}{i:Nat}{f:D t->Bool}(h:∀j,j<i->f (nth t l j)=false):(l.take i).any f=false:=by
 rw[cy];intro x hx;obtain⟨j,hj,rfl⟩:=dw hx;rw[bh]at hj;have:=h j (by omega);rw[List.getElem_take];have e:nth t l j=l[j]'(by omega):=by unfold nth;simp[show j<l.length by omega]
 rw[e]at this;rw[this];decide
def contains_of{l:List (List UInt8)}{s:List UInt8}{y:Int}(h:(y= -1/\∀j,j<l.length->nth .str l j≠s)\/(0<=y/\y.toNat<l.length/\nth .str l y.toNat=s)):decide (y>=0)=l.any (· == s):=by
 rcases h with⟨rfl,h⟩|⟨h1,h2,h3⟩
 ·have:=En (t:=.str) (l:=l) (i:=l.length) (f:=(· == s)) fun j hj=>by simpa using h j hj
  rw[cb]at this;rw[this];rfl
 ·have:=Hf (t:=.str) (l:=l) (i:=l.length) (f:=(· == s)) h2 (ak _) (by simpa using h3)
  rw[cb]at this;rw[this];simpa using h1
def JO{o:D aB}(h:lZ o):cY o=2:=by unfold cY;rw[if_pos h]
def w6{o:D aB}(h:¬lZ o){f:Int}(hf:jz [] o.1=f)(h0:f≠0):cY o=f:=by unfold cY;rw[if_neg h,if_pos (by rw[hf];exact h0),hf]
def Hg{o:D aB}(h:¬lZ o)(h1:jz [] o.1=0){f:Int}(hf:kQ o.2.1=f)(h0:f≠0):cY o=f:=by
 unfold cY;rw[if_neg h,if_neg (by rw[h1];decide),if_pos (by rw[hf];exact h0),hf]
def JP{o:D aB}(h:¬lZ o)(h1:jz [] o.1=0)(h2:kQ o.2.1=0){f:Int}(hf:ic o.2.1.length [] o.2.2.1=f)(h0:f≠0):cY o=f:=by
 unfold cY;rw[if_neg h,if_neg (by rw[h1];decide),if_neg (by rw[h2];decide),if_pos (by rw[hf];exact h0),hf]
def JQ{o:D aB}(h:¬lZ o)(h1:jz [] o.1=0)(h2:kQ o.2.1=0)(h3:ic o.2.1.length [] o.2.2.1=0){f:Int}(hf:kR o.2.1.length none o.2.2.2.1=f):cY o=f:=by
 unfold cY;rw[if_neg h,if_neg (by rw[h1];decide),if_neg (by rw[h2];decide),if_neg (by rw[h3];decide),hf]
abbrev aD:=List UInt8
def pH(a b:aD):Prop:=bu a b=true
def Hh(a:UInt8):¬a<a:=fun h=>by have:=dz.1 h;omega
def po:∀a:aD,¬pH a a
 |[]=>fun h=>by cases h
 |a :: x=>fun h=>by
  unfold pH at h;simp only[bu,bq,decide_eq_true_eq,af]at h;rcases h with h|⟨_,h⟩
  ·exact Hh a h
  ·exact po x h
def w7:∀{a b c:aD},pH a b->pH b c->pH a c
 |a,[],_,h,_=>by unfold pH at h;cases a <;> simp[bu]at h
 |_,_ :: _,[],_,h=>by unfold pH at h;simp[bu]at h
 |[],_ :: _,_ :: _,_,_=>rfl
 |a :: x,b :: y,c :: z,h1,h2=>by
  unfold pH at h1 h2 ⊢;simp only[bu,bq,decide_eq_true_eq,af,beq_iff_eq]at h1 h2 ⊢;rcases h1 with h1|⟨rfl,h1⟩
  ·rcases h2 with h2|⟨rfl,h2⟩
   ·left;rw[dz]at*;omega
   ·exact .inl h1
  ·rcases h2 with h2|⟨rfl,h2⟩
   ·exact .inl h2
   ·exact .inr ⟨rfl,w7 h1 h2⟩
def w8:∀{a b:aD},¬pH a b->¬pH b a->a=b
 |[],[],_,_=>rfl
 |[],_ :: _,h,_=>(h rfl).elim
 |_ :: _,[],_,h=>(h rfl).elim
 |a :: x,b :: y,h1,h2=>by
  unfold pH at h1 h2;simp only[bu,bq,decide_eq_true_eq,af,beq_iff_eq,not_or,not_and]at h1 h2;have hab:a=b:=by
   apply UInt8.toNat_inj.1;have h3:=h1.1;have h4:=h2.1;rw[dz]at h3 h4;omega
  subst hab;rw[w8 (h1.2 rfl) (h2.2 rfl)]
def B3(a b:aD):Prop:=¬pH b a
def Hi(a:aD):B3 a a:=po a
def Eo{a b:aD}(h:pH a b):B3 a b:=fun h'=>po a (w7 h h')
def Pb{a b c:aD}(h1:B3 a b)(h2:B3 b c):B3 a c:=by
 intro h;by_cases hab:pH a b
 ·exact h2 (w7 h hab)
 ·have:=w8 hab h1;subst this;exact h2 h
def w9{a b:aD}(h1:B3 a b)(h2:a≠b):pH a b:=aq fun h=>h2 (w8 h h1)
abbrev Dk:=(Int×Bool×Unit)×(List (List UInt8)×(List (List UInt8)×(List (Int×List UInt8×Unit)×Unit)))
def xa(x:Int×Int):Int×Int:=(0,x.1*x.2)
def eJ(s:List UInt8):List UInt8:=s++bb (64-s.length) 0
def stepOf(d:Dk):Dk×Int:=
 if d.1.2.1=true then(d,9)else if d.1.1=0 then(((-1,true,()),d.2),9)else(((if 0<d.1.1 then d.1.1-1 else d.1.1,false,()),d.2),0)
def bK(d:Dk)(at_:Int)(s:List UInt8):Dk×Int:=
 if at_<0\/(d.2.2.1.length:Int)<=at_\/64<s.length then(d,1)
 else if(stepOf d).2=0 then(((stepOf d).1.1,d.2.1,d.2.2.1.set at_.toNat (eJ s),d.2.2.2.1++[(at_,eJ s,())],()),0)else stepOf d
def qi(d:Dk)(at_:Int):List UInt8×Int:=
 if d.1.2.1=true then([],9)else if at_<0\/(d.2.2.1.length:Int)<=at_ then([],1)else(nth .str d.2.2.1 at_.toNat,0)
def bP(d:Dk):Dk×Int:=
 if(stepOf d).2=0 then(((stepOf d).1.1,d.2.2.1,d.2.2.1,[],()),0)else stepOf d
def Wq(d:Dk)(n:Int):Dk:=((L5 n (-1),d.1.2.1,()),d.2)
def Gc(k:Int)(i:Nat):Prop:=(dT .u64 ((b4 a7.bits (k.fdiv (2^(i % 64)))&&&b4 a7.bits 1).toNat:Int))=1
open Classical in
def kT(k:Int)(wait:List (Int×List UInt8×Unit))(kept:List (List UInt8)):Nat->List (List UInt8)
 |0=>kept
 |n+1=>if Gc k n then(kT k wait kept n).set (nth jr wait n).1.toNat (nth jr wait n).2.1 else kT k wait kept n
def Hj(d:Dk)(k:Int):Dk:=
 ((-1,false,()),kT k d.2.2.2.1 d.2.1 d.2.2.2.1.length,kT k d.2.2.2.1 d.2.1 d.2.2.2.1.length,[],())
def qQ(n:Int):Dk:=((-1,false,()),bb n.toNat (eJ []),bb n.toNat (eJ []),[],())
def xb(k:Int)(wait:List (Int×List UInt8×Unit))(kept:List (List UInt8)):∀n,(kT k wait kept n).length=kept.length
 |0=>rfl
 |n+1=>by unfold kT;split <;> simp[xb k wait kept n]
def eW(d:Dk):(stepOf d).1.2=d.2:=by
 unfold stepOf;split
 ·rfl
 ·split <;> rfl
def Mx(n:Nat):bytesOf (bb n 0)=bb n 0:=by
 unfold bytesOf;rw[List.map_replicate];rfl
def lB{a:Int}(h0:0<=a)(h:a<18446744073709551616):a7.wrap a=a:=
 x5 (by simp[dp,dq,dr,dt];omega)
def Hk{a:Int}(h0:0<=a)(h:a<18446744073709551616):(b4 a7.bits a).toNat=a.toNat:=by
 rw[BitVec.toNat_ofInt];show(a % (2^64:Nat)).toNat=a.toNat;rw[Int.emod_eq_of_lt h0 (by simpa using h)]
def Sy{a x:Int}(hx:x=dT .u64 ((b4 a7.bits a&&&b4 a7.bits 4294967295).toNat:Int))(h0:0<=a)(h:a<4294967296):x=a:=by
 rw[BitVec.toNat_and,Hk h0 (by omega),Hk (by omega) (by omega)]at hx;rw[show(4294967295:Int).toNat=2^32-1 from rfl,Nat.and_two_pow_sub_one_eq_mod,Nat.mod_eq_of_lt (by omega),ew h0,lB h0 (by omega)]at hx;exact hx
def Hl{a x:Int}{n:Nat}(hx:x=a.fdiv (2^(min n a7.bits)))(hn:n=32)(h0:0<=a)(h:a<4294967296):x=0:=by
 subst hn;rw[show min 32 a7.bits=32 from rfl,Int.fdiv_eq_ediv_of_nonneg _ (by decide),Int.ediv_eq_zero_of_lt h0 (by simpa using h)]at hx;exact hx
def l5(s:List UInt8)(n k:Nat):List (List UInt8):=bb k s++bb (n-k) []
def Hm{s:List UInt8}{n k:Nat}(h:k<=n):(l5 s n k).length=n:=by simp[l5];omega
def My{s:List UInt8}{n:Nat}(hn:0<n){k:Nat}(hk:k=1)(x:List (List UInt8))(hx:x=[s]):(bb n ([]:List UInt8)).take 0++x.take k++(bb n []).drop (0+k)=l5 s n 1:=by
 subst hk;subst hx;simp[l5]
def Pc{s:List UInt8}{n k m:Nat}(hk:k+m<=n)(hm:m<=k):(l5 s n k).take k++((l5 s n k).take k).take m++(l5 s n k).drop (k+m)=l5 s n (k+m):=by
 have h1:(l5 s n k).take k=bb k s:=by
  unfold l5;rw[List.take_append_of_le_length (by simp),cg (by simp)]
 rw[h1,List.take_replicate,c7 hm];unfold l5;rw[List.drop_append,List.drop_of_length_le (by simp),ey,List.drop_replicate,List.length_replicate,<-List.replicate_append_replicate];rw[show n-k-(k+m-k)=n-(k+m) by omega]
def Pd{s:List UInt8}{n:Nat}:l5 s n n=bb n s:=by simp[l5]
def aP{n:Int}:(aI n).isNil=true↔n=0:=by
 unfold aI;split
 ·rename_i h;simp[h,aL.isNil]
 ·rename_i h;simp[h,aL.isNil]
def Mz{d:Dk}{at_:Int}{s:List UInt8}(h:at_<0\/(d.2.2.1.length:Int)<=at_\/64<s.length):bK d at_ s=(d,1):=by unfold bK;rw[if_pos h]
def JR{d:Dk}{at_:Int}{s:List UInt8}(h:¬(at_<0\/(d.2.2.1.length:Int)<=at_\/64<s.length))(h2:¬(stepOf d).2=0):bK d at_ s=stepOf d:=by unfold bK;rw[if_neg h,if_neg h2]
def Pe{d:Dk}{at_:Int}{s:List UInt8}(h:¬(at_<0\/(d.2.2.1.length:Int)<=at_\/64<s.length))(h2:(stepOf d).2=0) :
  bK d at_ s=(((stepOf d).1.1,d.2.1,d.2.2.1.set at_.toNat (eJ s),d.2.2.2.1++[(at_,eJ s,())],()),0):=by unfold bK;rw[if_neg h,if_pos h2]
def U3{t:Ty}{l:List (D t)}{i:Nat}{x:D t}(h:i<l.length):nth t (l.set i x) i=x:=by
 unfold nth;simp[List.getD_eq_getElem?_getD,h]
def Hn{a b:List (List UInt8)}(h:a.length=b.length):a.take 0++b.take (min b.length a.length)++a.drop (0+min b.length a.length)=b:=by
 rw[h,Nat.min_self];simp[h]
def Sz{k:Int}{i n:Nat}{x y:Int}(hx:x=k.fdiv (2^(min n a7.bits)))(hn:n=i % 64)(hy:y=dT .u64 ((b4 a7.bits x&&&b4 a7.bits 1).toNat:Int)):y=1↔Gc k i:=by
 subst hn;have:min (i % 64) a7.bits=i % 64:=c7 (by show i % 64<=64;omega);rw[this]at hx;subst hx;subst hy;exact Iff.rfl
def SA{k:Int}{wait:List (Int×List UInt8×Unit)}{kept:List (List UInt8)}{n:Nat}(h:Gc k n):(kT k wait kept n).set (nth jr wait n).1.toNat (nth jr wait n).2.1=kT k wait kept (n+1):=by
 rw[kT,if_pos h]
def Pf{k:Int}{wait:List (Int×List UInt8×Unit)}{kept:List (List UInt8)}{n:Nat}(h:¬Gc k n):kT k wait kept n=kT k wait kept (n+1):=by
 rw[kT,if_neg h]
def JS{d:Dk}(h:d.1.2.1=true):stepOf d=(d,9):=by unfold stepOf;rw[if_pos h]
def JT{d:Dk}(h:d.1.2.1=false)(h0:d.1.1=0):stepOf d=(((-1,true,()),d.2),9):=by unfold stepOf;rw[if_neg (by rw[h];decide),if_pos h0]
def Pg{d:Dk}(h:d.1.2.1=false)(h0:¬d.1.1=0)(hf : -1<=d.1.1):stepOf d=(((if(-1:Int) > d.1.1-1 then(-1:Int)else d.1.1-1,d.1.2.1,()),d.2),0):=by
 unfold stepOf;rw[if_neg (by rw[h];decide),if_neg h0,h];by_cases c:0<d.1.1
 ·rw[if_pos c,if_neg (by omega)]
 ·rw[if_neg c,if_pos (by omega),show d.1.1= -1 by omega]
def MA{d:Dk}{a:Int}(h:d.1.2.1=true):qi d a=([],9):=by unfold qi;rw[if_pos h]
def Ph{d:Dk}{a:Int}(h:d.1.2.1=false)(h2:a<0\/(d.2.2.1.length:Int)<=a):qi d a=([],1):=by unfold qi;rw[if_neg (by rw[h];decide),if_pos h2]
def SB{d:Dk}{a:Int}(h:d.1.2.1=false)(h2:¬(a<0\/(d.2.2.1.length:Int)<=a)):qi d a=(nth .str d.2.2.1 a.toNat,0):=by unfold qi;rw[if_neg (by rw[h];decide),if_neg h2]
def Ep{d:Dk}(h:(stepOf d).2=0):bP d=(((stepOf d).1.1,d.2.2.1,d.2.2.1,[],()),0):=by unfold bP;rw[if_pos h]
def y9{d:Dk}(h:¬(stepOf d).2=0):bP d=stepOf d:=by unfold bP;rw[if_neg h]
def Uo(i:Nat):cc ((i:Int).tmod 64)=i % 64:=by rw[ez (by omega)];omega
def lC{a:Int}(h0 : -9223372036854775808<=a)(h:a<9223372036854775808):IntKind.i64.wrap a=a:=
 x5 (by rw[rl];unfold aJ;omega)
end Go.Mrl
namespace Go.Mrl
open Go.Vg
def rU(e:D aC):Prop:=e.1.length<=20/\e.2.1.length<=8/\e.2.2.1.length<=40/\∀i,i<e.2.1.length->(nth aG e.2.1 i).1.length<=20
def xc(a:D dB):Prop:=a.2.1.length<=100/\a.2.2.1.length<=1300/\rU a.2.2.2.2.2.1
def rn(l:List (D dB))(m:Int):Prop:=(l.length:Int)<=m/\∀i,i<l.length->xc (nth dB l i)
end Go.Mrl

namespace Go.Mrl
open Go.Vg
@[reducible] def cJ:Ty:=.prod .str (.prod (.int .i64) .unit)
abbrev FE:=aD×(aD×Int×Unit)×Int×Unit
abbrev cN:=(Int×Unit)×(List FE×Int×Unit)×Unit
def qk(y:FE):Int:=y.2.2.1
def pq(y:FE):aD:=y.1
def aK(x:cN)(s:aD):aD×Int×Int:=
 if cW cJ x.2.1.1 s=true then((iU cJ x.2.1.1 s).1,(iU cJ x.2.1.1 s).2.1,0)else([],0,5)
def cK(x:cN)(s t:aD):cN×Int:=
 if ¬aO s=0 then(x,aO s)else if 1200<t.length then(x,2)
 else if(cW cJ x.2.1.1 s=false/\x.2.1.1.length=6)\/x.1.1=1000000 then(x,8)
 else(((x.1.1+1,()),(eU cJ x.2.1.1 s (t,x.1.1+1,()) x.2.1.2.1,mR cJ x.2.1.1 s x.2.1.2.1,()),()),0)
def fF(x:cN)(s:aD):cN×Int:=
 if cW cJ x.2.1.1 s=true then((x.1,(fU cJ x.2.1.1 s,x.2.1.2.1,()),()),0)else(x,5)
def ql:cN:=((0,()),([],0,()),())
def lL{x:cN}{s:aD}(h:cW cJ x.2.1.1 s=false):aK x s=([],0,5):=by unfold aK;rw[if_neg (by rw[h];simp)]
def pr{x:cN}{s:aD}(h:cW cJ x.2.1.1 s=true):aK x s=((iU cJ x.2.1.1 s).1,(iU cJ x.2.1.1 s).2.1,0):=by unfold aK;rw[if_pos h]
def xe{x:cN}{s t:aD}(h:¬aO s=0):cK x s t=(x,aO s):=by unfold cK;rw[if_pos h]
def xf{x:cN}{s t:aD}(h:aO s=0)(h1:1200<t.length):cK x s t=(x,2):=by unfold cK;rw[if_neg (by simp[h]),if_pos h1]
def xg{x:cN}{s t:aD}(h:aO s=0)(h1:¬1200<t.length)(h2:(cW cJ x.2.1.1 s=false/\x.2.1.1.length=6)\/x.1.1=1000000):cK x s t=(x,8):=by unfold cK;rw[if_neg (by simp[h]),if_neg h1,if_pos h2]
def B4{x:cN}{s t:aD}(h:aO s=0)(h1:¬1200<t.length)(h2:¬((cW cJ x.2.1.1 s=false/\x.2.1.1.length=6)\/x.1.1=1000000)) :
  cK x s t=(((x.1.1+1,()),(eU cJ x.2.1.1 s (t,x.1.1+1,()) x.2.1.2.1,mR cJ x.2.1.1 s x.2.1.2.1,()),()),0):=by unfold cK;rw[if_neg (by simp[h]),if_neg h1,if_neg h2]
def mz{x:cN}{s:aD}(h:cW cJ x.2.1.1 s=false):fF x s=(x,5):=by unfold fF;rw[if_neg (by rw[h];simp)]
def lD{x:cN}{s:aD}(h:cW cJ x.2.1.1 s=true):fF x s=((x.1,(fU cJ x.2.1.1 s,x.2.1.2.1,()),()),0):=by unfold fF;rw[if_pos h]
theorem Er{α:Type}[DecidableEq α]:∀{a b:List α},a.Nodup->(∀y∈a,y∈b)->a.length<=b.length
 |[],_,_,_=>by simp
 |x :: a,b,hn,hs=>by
  have hn':=ch.1 hn;have h1:(b.erase x).length=b.length-1:=List.length_erase_of_mem (hs x (by simp));have h2:0<b.length:=List.length_pos_of_mem (hs x (by simp));have:=Er (b:=b.erase x) hn'.2 fun y hy=>(List.mem_erase_of_ne (fun(e:y=x)=>hn'.1 (by rw[<-e];exact hy))).2 (hs y (by simp[hy]))
  simp only[cj];omega
abbrev RF:=aD×aD×Int×Unit
abbrev RS:=List RF×Int×Unit
def yr(y:RF):aD:=y.1
def kr(s:aD)(y:RF):Bool:=!(y.1 == s)
def q8:List RF->aD->aD×Int×Int
 |[],_=>([],0,5)
 |y :: r,s=>if y.1=s then(y.2.1,y.2.2.1,0)else q8 r s
def tl(s:aD)(e:RF):List RF->List RF
 |[]=>[e]
 |y :: r=>if(bu s y.1 || s == y.1)=true then e :: (y :: r).filter (kr s)else y :: tl s e r
def tV(x:RS)(s t:aD):RS×Int:=
 if ¬aO s=0 then(x,aO s)else if 1200<t.length then(x,2)
 else if(0<(q8 x.1 s).2.2/\x.1.length=6)\/x.2.1=1000000 then(x,8)
 else((tl s (s,t,x.2.1+1,()) x.1,x.2.1+1,()),0)
def yt(x:RS)(s:aD):RS×Int:=if(x.1.filter (kr s)).length=x.1.length then(x,5)else((x.1.filter (kr s),x.2),0)
def sH(y:FE):RF:=(y.1,y.2.1.1,y.2.1.2.1,())
def tW(L:List RF):Prop:=L.Pairwise fun a b=>pH a.1 b.1
structure fZ (x:cN) (r:RS):Prop where
 now:r.2.1=x.1.1
 lo:0<=x.1.1
 hi:x.1.1<=1000000
 len:x.2.1.1.length<=6
 born:(x.2.1.1.map qk).Nodup
 old:∀y∈x.2.1.1,qk y<x.2.1.2.1
 Ho:tW r.1
 perm:r.1.Perm (x.2.1.1.map sH)
def fZ.new:fZ ql ([],0,()):=⟨rfl,az _,by decide,by decide,by decide,fun y hy=>by simp[ql]at hy,.nil,.refl _⟩
def xh{L:List RF}(h:tW L):(L.map yr).Nodup:=by
 unfold List.Nodup;rw[List.pairwise_map];exact h.imp fun hlt e=>by unfold yr at e;rw[e]at hlt;exact po _ hlt
def fZ.names{x:cN}{r:RS}(h:fZ x r):(x.2.1.1.map pq).Nodup:=by
 have h1:=(h.perm.map yr).nodup_iff.1 (xh h.Ho);rw[dn]at h1;exact h1
def Es:∀{L:List RF} {s:aD},(L.map yr).Nodup->∀y∈L,y.1=s->q8 L s=(y.2.1,y.2.2.1,0)
 |[],_,_,_,h,_=>by simp at h
 |z :: r,s,hn,y,hy,e=>by
  simp only[aj,ch]at hn;unfold q8;rcases ag.1 hy with rfl|hy
  ·rw[if_pos e]
  ·have:¬z.1=s:=fun e2=>hn.1 (by rw[show yr z=yr y from e2.trans e.symm];exact bw hy)
   rw[if_neg this];exact Es hn.2 y hy e
def Hp:∀{L:List RF} {s:aD},(∀y∈L,¬y.1=s)->q8 L s=([],0,5)
 |[],_,_=>rfl
 |z :: r,s,h=>by
  unfold q8;rw[if_neg (h z (by simp))];exact Hp fun y hy=>h y (by simp[hy])
def l6:∀{es:List FE} {s:aD},cW cJ es s=true↔∃y∈es,y.1=s
 |[],_=>by simp[cW]
 |z :: r,s=>by
  unfold cW;by_cases c:z.1=s
  ·simp[c]
  ·rw[if_neg c,l6];simp[c]
def uY:∀{es:List FE} {s:aD},(es.map pq).Nodup->∀y∈es,y.1=s->iU cJ es s=y.2.1
 |[],_,_,_,h,_=>by simp at h
 |z :: r,s,hn,y,hy,e=>by
  simp only[aj,ch]at hn;unfold iU;rcases ag.1 hy with rfl|hy
  ·rw[if_pos e]
  ·have:¬z.1=s:=fun e2=>hn.1 (by rw[show pq z=pq y from e2.trans e.symm];exact bw hy)
   rw[if_neg this];exact uY hn.2 y hy e
def fZ.read{x:cN}{r:RS}(h:fZ x r)(s:aD):aK x s=q8 r.1 s:=by
 by_cases c:cW cJ x.2.1.1 s=true
 ·obtain⟨y,hy,e⟩:=l6.1 c
  rw[pr c,uY h.names y hy e];exact(Es (xh h.Ho) (sH y) (h.perm.mem_iff.2 (bw hy)) e).symm
 ·rw[lL (by simpa using c)]
  refine(Hp fun y hy e=>c ?_).symm;obtain⟨z,hz,rfl⟩:=bf.1 (h.perm.mem_iff.1 hy);exact l6.2 ⟨z,hz,e⟩
def lM{s:aD}{y:RF}:kr s y=true↔¬y.1=s:=by simp[kr]
def Hq{s:aD}{e:RF}:∀{L:List RF} {y:RF},y∈tl s e L->y=e\/y∈L
 |[],y,h=>by simp[tl]at h;exact .inl h
 |z :: r,y,h=>by
  unfold tl at h;split at h
  ·rcases ag.1 h with h|h
   ·exact .inl h
   ·exact .inr (e8.1 h).1
  ·rcases ag.1 h with rfl|h
   ·exact .inr (by simp)
   ·rcases Hq h with h|h
    ·exact .inl h
    ·exact .inr (by simp[h])
def not_le{s a:aD}(h:¬(bu s a || s == a)=true):pH a s:=by
 simp at h;exact w9 (a:=a) (b:=s) (by unfold B3 pH;rw[h.1];simp) (fun e=>h.2 e.symm)
def zA{s:aD}{e:RF}(he:e.1=s):∀{L:List RF},tW L->tW (tl s e L)
 |[],_=>by simp[tl,tW]
 |z :: r,h=>by
  have h':=c8.1 h;unfold tl;split
  ·rename_i c
   refine c8.2 ⟨fun y hy =>?_,h.filter _⟩;have hy':=e8.1 hy;have hn:=lM.1 hy'.2;have hz:B3 s z.1:=by
    simp at c;rcases c with c|rfl
    ·exact Eo c
    ·exact Hi _
   have hzy:B3 z.1 y.1:=by
    rcases ag.1 hy'.1 with e2|hy2
    ·rw[e2];exact Hi _
    ·exact Eo (h'.1 y hy2)
   rw[he];exact w9 (Pb hz hzy) (fun e2=>hn e2.symm)
  ·rename_i c
   have hlt:=not_le c;refine c8.2 ⟨fun y hy =>?_,zA he h'.2⟩;rcases Hq hy with rfl|hy
   ·rw[he];exact hlt
   ·exact h'.1 y hy
def filter_all{s:aD}:∀{L:List RF},(∀y∈L,¬y.1=s)->L.filter (kr s)=L:=fun h=>List.filter_eq_self.2 fun y hy=>lM.2 (h y hy)
def Et{s:aD}{e:RF}:∀{L:List RF},tW L->(tl s e L).Perm (e :: L.filter (kr s))
 |[],_ =>.refl _
 |z :: r,h=>by
  have h':=c8.1 h;unfold tl;split
  ·exact .refl _
  ·rename_i c
   have hlt:=not_le c;have hz:kr s z=true:=lM.2 fun e=>by rw[e]at hlt;exact po _ hlt
   rw[ck,if_pos hz];exact((Et h'.2).cons z).trans (e9 e z _)
def xi{s:aD}{v:aD×Int×Unit}{c:Int}:∀{es:List FE},(es.map pq).Nodup->((eU cJ es s v c).map sH).Perm ((s,v.1,v.2.1,()) :: (es.map sH).filter (kr s))
 |[],_ =>.refl _
 |z :: r,hn=>by
  simp only[aj,ch]at hn;unfold eU;by_cases e:z.1=s
  ·rw[if_pos e]
   have h1:kr s (sH z)=false:=by
    cases h:kr s (sH z)with
    |false=>rfl
    |true=>exact absurd e (lM.1 h)
   rw[aj,aj,ck,if_neg (by rw[h1];simp),filter_all]
   ·exact .refl _
   ·intro y hy e2
    obtain⟨z2,hz2,rfl⟩:=bf.1 hy;exact hn.1 (by rw[show pq z=pq z2 from e.trans (show s=z2.1 from e2.symm)];exact bw hz2)
  ·rw[if_neg e]
   have h1:kr s (sH z)=true:=lM.2 e;rw[aj,aj,ck,if_pos h1];exact((xi hn.2).cons (sH z)).trans (e9 _ _ _)
def sJ{s:aD}{v:aD×Int×Unit}{c:Int}:∀{es:List FE},(eU cJ es s v c).map qk=if cW cJ es s=true then es.map qk else es.map qk++[c]
 |[]=>rfl
 |z :: r=>by
  unfold eU cW;by_cases e:z.1=s
  ·rw[if_pos e,if_pos e];rfl
  ·rw[if_neg e,if_neg e,aj,sJ]
   split <;> rfl
def Hr{s:aD}:∀{es:List FE},(es.map pq).Nodup->(fU cJ es s).map sH=(es.map sH).filter (kr s)
 |[],_=>rfl
 |z :: r,hn=>by
  simp only[aj,ch]at hn;unfold fU;by_cases e:z.1=s
  ·have h1:¬kr s (sH z)=true:=fun h=>lM.1 h e
   rw[if_pos e,aj,ck,if_neg h1,filter_all];intro y hy e2;obtain⟨z2,hz2,rfl⟩:=bf.1 hy;exact hn.1 (by rw[show pq z=pq z2 from e.trans (show s=z2.1 from e2.symm)];exact bw hz2)
  ·have h1:kr s (sH z)=true:=lM.2 e
   rw[if_neg e,aj,aj,ck,if_pos h1,Hr hn.2]
def pV{s:aD}:∀{es:List FE},(fU cJ es s).Sublist es
 |[] =>.refl _
 |z :: r=>by
  unfold fU;split
  ·exact List.sublist_cons_self _ _
  ·exact pV.cons_cons _
def fZ.has{x:cN}{r:RS}(h:fZ x r)(s:aD):0<(q8 r.1 s).2.2↔cW cJ x.2.1.1 s=false:=by
 rw[<-h.read s];cases c:cW cJ x.2.1.1 s with
 |true=>rw[pr c];simp
 |false=>rw[lL c];simp
def fZ.write{x:cN}{r:RS}(h:fZ x r)(s t:aD):fZ (cK x s t).1 (tV r s t).1/\(cK x s t).2=(tV r s t).2:=by
 have hlen:r.1.length=x.2.1.1.length:=by rw[h.perm.length_eq,ec]
 have hc:((cW cJ x.2.1.1 s=false/\x.2.1.1.length=6)\/x.1.1=1000000)↔((0<(q8 r.1 s).2.2/\r.1.length=6)\/r.2.1=1000000):=by rw[h.has,hlen,h.now]
 by_cases h1:aO s=0
 ·by_cases h2:1200<t.length
  ·rw[xf h1 h2]
   unfold tV;rw[if_neg (by simp[h1]),if_pos h2];exact⟨h,rfl⟩
  ·by_cases h3:(cW cJ x.2.1.1 s=false/\x.2.1.1.length=6)\/x.1.1=1000000
   ·rw[xg h1 h2 h3]
    unfold tV;rw[if_neg (by simp[h1]),if_neg h2,if_pos (hc.1 h3)];exact⟨h,rfl⟩
   ·rw[B4 h1 h2 h3]
    unfold tV;rw[if_neg (by simp[h1]),if_neg h2,if_neg (fun h'=>h3 (hc.2 h'))];refine⟨⟨by rw[h.now],by have:=h.lo;simp only;omega,by have:=h.hi;simp only;omega,?_,?_,?_,zA (s:=s) (e:=(s,t,r.2.1+1,())) rfl h.Ho,?_⟩,rfl⟩
    ·have hp:=(xi (s:=s) (v:=(t,x.1.1+1,())) (c:=x.2.1.2.1) h.names).length_eq
     have hb:=congrArg bj (sJ (s:=s) (v:=(t,x.1.1+1,())) (c:=x.2.1.2.1) (es:=x.2.1.1));simp only[ec]at hb;show(eU cJ x.2.1.1 s (t,x.1.1+1,()) x.2.1.2.1).length<=6;rw[hb];have:=h.len;cases c:cW cJ x.2.1.1 s with
     |true=>simpa using this
     |false=>
      have:¬x.2.1.1.length=6:=fun e=>h3 (.inl ⟨c,e⟩)
      simp;omega
    ·show((eU cJ x.2.1.1 s (t,x.1.1+1,()) x.2.1.2.1).map qk).Nodup
     rw[sJ];split
     ·exact h.born
     ·rw[fb]
      refine⟨h.born,by simp,fun a ha b hb e =>?_⟩;simp at hb;obtain⟨y,hy,rfl⟩:=bf.1 ha;have:=h.old y hy;omega
    ·intro y hy
     have hy':qk y∈(eU cJ x.2.1.1 s (t,x.1.1+1,()) x.2.1.2.1).map qk:=bw hy;rw[sJ]at hy';show qk y<mR cJ x.2.1.1 s x.2.1.2.1;unfold mR;split at hy'
     ·rename_i c
      rw[if_pos c];obtain⟨z,hz,e⟩:=bf.1 hy';rw[<-e];exact h.old z hz
     ·rename_i c
      rw[if_neg c];rcases au.1 hy' with hy'|hy'
      ·obtain⟨z,hz,e⟩:=bf.1 hy'
       have:=h.old z hz;omega
      ·simp at hy';omega
    ·refine(Et h.Ho).trans ?_
     rw[h.now];exact((h.perm.filter _).cons _).trans (xi (v:=(t,x.1.1+1,())) (c:=x.2.1.2.1) h.names).symm
 ·rw[xe h1]
  unfold tV;rw[if_pos h1];exact⟨h,rfl⟩
def fZ.remove{x:cN}{r:RS}(h:fZ x r)(s:aD):fZ (fF x s).1 (yt r s).1/\(fF x s).2=(yt r s).2:=by
 have hp:(r.1.filter (kr s)).Perm ((fU cJ x.2.1.1 s).map sH):=by rw[Hr h.names];exact h.perm.filter _
 cases c:cW cJ x.2.1.1 s with
 |false=>
  have hall:r.1.filter (kr s)=r.1:=filter_all fun y hy e=>by
   obtain⟨z,hz,rfl⟩:=bf.1 (h.perm.mem_iff.1 hy);have:=l6.2 ⟨z,hz,e⟩;rw[c]at this;cases this
  rw[mz c];unfold yt;rw[if_pos (by rw[hall])];exact⟨h,rfl⟩
 |true=>
  obtain⟨y,hy,e⟩:=l6.1 c;have hlt:(r.1.filter (kr s)).length<r.1.length:=List.length_filter_lt_length_iff_exists.2 ⟨sH y,h.perm.mem_iff.2 (bw hy),by rw[lM];exact fun h=>h e⟩;rw[lD c];unfold yt;rw[if_neg (by omega)];refine⟨⟨h.now,h.lo,h.hi,b5 pV.length_le h.len,(pV.map qk).nodup h.born,fun y hy=>h.old y (pV.subset hy),List.Pairwise.filter _ h.Ho,hp⟩,rfl⟩
def rV:aD:=[119,114,105,116,101]
def fZ.pre{x:cN}{r:RS}(h:fZ x r):x.2.1.1.length<=6/\0<=x.1.1/\x.1.1<=1000000:=⟨h.len,h.lo,h.hi⟩
def tX:aD:=[114,101,109,111,118,101]
def mJ(x:cN)(a:D dB):cN:=if a.1=rV then(cK x a.2.1 a.2.2.1).1 else if a.1=tX then(fF x a.2.1).1 else x
def js(x:cN)(l:List (D dB)):cN:=l.foldl mJ x
def uZ{x:cN}{l:List (D dB)}{i:Nat}(h:i<l.length):js x (l.take (i+1))=mJ (js x (l.take i)) (nth dB l i):=by rw[lK (t:=dB) h];simp[js]
def JU{x:cN}{a:D dB}(h:a.1=rV):mJ x a=(cK x a.2.1 a.2.2.1).1:=if_pos h
def Hs{x:cN}{a:D dB}(h:¬a.1=rV)(h2:a.1=tX):mJ x a=(fF x a.2.1).1:=by unfold mJ;rw[if_neg h,if_pos h2]
def MB{x:cN}{a:D dB}(h:¬a.1=rV)(h2:¬a.1=tX):mJ x a=x:=by unfold mJ;rw[if_neg h,if_neg h2]
structure dD (x:cN):Prop where
 gJ:∃r,fZ x r
 MC:∀y∈x.2.1.1,y.2.1.2.1<=x.1.1
def dD.new:dD ql:=⟨⟨_,fZ.new⟩,fun y hy=>by simp[ql]at hy⟩
def Ht{s:aD}{v:aD×Int×Unit}{c:Int}:∀{es:List FE} {y:FE},y∈eU cJ es s v c->y.2.1=v\/y∈es
 |[],y,h=>by simp[eU]at h;subst h;exact .inl rfl
 |z :: r,y,h=>by
  unfold eU at h;split at h
  ·rcases ag.1 h with rfl|h
   ·exact .inl rfl
   ·exact .inr (by simp[h])
  ·rcases ag.1 h with rfl|h
   ·exact .inr (by simp)
   ·rcases Ht h with h|h
    ·exact .inl h
    ·exact .inr (by simp[h])
def mm(x:cN)(s t:aD):((cK x s t).1=x/\¬(cK x s t).2=0)\/
  ((cK x s t).1=((x.1.1+1,()),(eU cJ x.2.1.1 s (t,x.1.1+1,()) x.2.1.2.1,mR cJ x.2.1.1 s x.2.1.2.1,()),())/\(cK x s t).2=0):=by
 unfold cK;split
 ·rename_i h;exact .inl ⟨rfl,h⟩
 ·split
  ·exact .inl ⟨rfl,by simp⟩
  ·split
   ·exact .inl ⟨rfl,by simp⟩
   ·exact .inr ⟨rfl,rfl⟩
def dD.write{x:cN}(h:dD x)(s t:aD):dD (cK x s t).1/\x.1.1<=(cK x s t).1.1.1:=by
 obtain⟨r,hr⟩:=h.gJ;have hg:=(hr.write s t).1;rcases mm x s t with⟨e,_⟩|⟨e,_⟩
 ·rw[e];exact⟨h,az _⟩
 ·rw[e]at hg ⊢
  refine⟨⟨⟨_,hg⟩,fun y hy =>?_⟩,by simp only;omega⟩;rcases Ht hy with hy|hy
  ·rw[hy];exact az _
  ·have:=h.MC y hy;simp only;omega
def dD.remove{x:cN}(h:dD x)(s:aD):dD (fF x s).1/\x.1.1<=(fF x s).1.1.1:=by
 obtain⟨r,hr⟩:=h.gJ;have hg:=(hr.remove s).1;cases c:cW cJ x.2.1.1 s with
 |false=>rw[mz c];exact⟨h,az _⟩
 |true=>
  rw[lD c]at hg ⊢;exact⟨⟨⟨_,hg⟩,fun y hy=>h.MC y (pV.subset hy)⟩,az _⟩
def dD.mJ{x:cN}(h:dD x)(a:D dB):dD (mJ x a)/\x.1.1<=(Mrl.mJ x a).1.1:=by
 unfold Mrl.mJ;split
 ·exact h.write _ _
 ·split
  ·exact h.remove _
  ·exact⟨h,az _⟩
def dD.done:∀(l:List (D dB)) {x:cN},dD x->dD (js x l)
 |[],_,h=>h
 |a :: l,_,h=>dD.done l (h.mJ a).1
def MD{x:cN}(h:dD x){s:aD}(hn:(aI (aK x s).2.2).isNil=true):(aK x s).2.1<=x.1.1:=by
 have hc:=aP.1 hn;cases c:cW cJ x.2.1.1 s with
 |false=>rw[lL c]at hc;simp at hc
 |true=>
  obtain⟨r,hr⟩:=h.gJ;obtain⟨y,hy,e⟩:=l6.1 c;rw[pr c,uY hr.names y hy e];exact h.MC y hy
def rW{s k:aD}{v:aD×Int×Unit}{c:Int}:∀{es:List FE},cW cJ (eU cJ es s v c) k=(decide (k=s) || cW cJ es k)/\iU cJ (eU cJ es s v c) k=if k=s then v else iU cJ es k
 |[]=>by
  by_cases h:s=k
  ·subst h;simp[eU,cW,iU]
  ·have h':¬k=s:=fun e=>h e.symm
   simp[eU,cW,iU,h,h']
 |z :: r=>by
  obtain⟨i1,i2⟩:=rW (s:=s) (k:=k) (v:=v) (c:=c) (es:=r);unfold eU;by_cases e:z.1=s
  ·rw[if_pos e]
   by_cases h:s=k
   ·subst h;simp[cW,iU]
   ·have h':¬k=s:=fun e=>h e.symm
    have h2:¬z.1=k:=fun e2=>h (e.symm.trans e2)
    simp[cW,iU,h,h',h2]
  ·rw[if_neg e]
   by_cases h:z.1=k
   ·have h':¬k=s:=fun e2=>e (h.trans e2)
    simp[cW,iU,h,h']
   ·simp only[cW,iU,if_neg h];exact⟨i1,i2⟩
def ME{x:cN}{s k t:aD}(h:¬k=s):aK (cK x s t).1 k=aK x k:=by
 rcases mm x s t with⟨e,_⟩|⟨e,_⟩
 ·rw[e]
 ·rw[e]
  unfold aK;simp only[(rW (s:=s) (k:=k) (v:=(t,x.1.1+1,())) (c:=x.2.1.2.1) (es:=x.2.1.1)).1,(rW (s:=s) (k:=k) (v:=(t,x.1.1+1,())) (c:=x.2.1.2.1) (es:=x.2.1.1)).2,h,decide_false,Bool.false_or,if_false]
def Pj{x:cN}{s t:aD}(h:(aI (cK x s t).2).isNil=true):aK (cK x s t).1 s=(t,x.1.1+1,0):=by
 rcases mm x s t with⟨_,e⟩|⟨e,_⟩
 ·exact absurd (aP.1 h) e
 ·rw[e]
  unfold aK;simp only[(rW (s:=s) (k:=s) (v:=(t,x.1.1+1,())) (c:=x.2.1.2.1) (es:=x.2.1.1)).1,(rW (s:=s) (k:=s) (v:=(t,x.1.1+1,())) (c:=x.2.1.2.1) (es:=x.2.1.1)).2];simp
def Pk{x:cN}{s t:aD}(h:(aI (cK x s t).2).isNil=false):(cK x s t).1=x:=by
 rcases mm x s t with⟨e,_⟩|⟨_,e⟩
 ·exact e
 ·rw[e]at h;cases h
def dD.pre{x:cN}(h:dD x):x.2.1.1.length<=6/\0<=x.1.1/\x.1.1<=1000000:=let⟨_,hr⟩:=h.gJ;hr.pre
def _root_.Go.Vg.Hu:List UInt8->UInt8
 |c :: _=>c
 |[]=>0
def nG(c:UInt8):List aD->aD
 |[]=>[]
 |[x]=>x
 |x :: y :: r=>x++c :: nG c (y :: r)
def parts(c:UInt8):aD->List aD
 |[]=>[[]]
 |b :: r=>if b=c then[] :: parts c r else match parts c r with
  |h :: t=>(b :: h) :: t
  |[]=>[[b]]
def AG(c:UInt8):∀s:aD,parts c s≠[]
 |[]=>by simp[parts]
 |b :: r=>by
  unfold parts;split
  ·simp
  ·split <;> simp
def mn{c b:UInt8}{r:aD}(h:b≠c):∃x t,parts c r=x :: t/\parts c (b :: r)=(b :: x) :: t:=by
 cases hp:parts c r with
 |nil=>exact absurd hp (AG c r)
 |cons x t=>
  refine⟨x,t,rfl,?_⟩
  conv=>lhs;unfold parts
  rw[if_neg h,hp]
def oz{c:UInt8}{r:aD}:parts c (c :: r)=[] :: parts c r:=by
 conv=>lhs;unfold parts
 rw[if_pos rfl]
def lN{c:UInt8}:∀{x:aD},c∉x->parts c x=[x]
 |[],_=>rfl
 |b :: r,h=>by
  obtain⟨x,t,h1,h2⟩:=mn (c:=c) (b:=b) (r:=r) (fun e=>h (by simp[e]));rw[lN (x:=r) (fun e=>h (by simp[e]))]at h1;cases h1;exact h2
def hH{c:UInt8}:∀{x:aD} {s:aD},c∉x->parts c (x++c :: s)=x :: parts c s
 |[],s,_=>oz
 |b :: r,s,h=>by
  obtain⟨x,t,h1,h2⟩:=mn (c:=c) (b:=b) (r:=r++c :: s) (fun e=>h (by simp[e]));rw[hH (x:=r) (fun e=>h (by simp[e]))]at h1;cases h1;exact h2
def tm{c:UInt8}:∀{L:List aD},L≠[]->(∀y∈L,c∉y)->parts c (nG c L)=L
 |[],h,_=>absurd rfl h
 |[x],_,h=>lN (h x (by simp))
 |x :: y :: r,_,h=>by
  show parts c (x++c :: nG c (y :: r))=_;rw[hH (h x (by simp)),tm (by simp) fun z hz=>h z (cd _ hz)]
def sK(c:UInt8):∀(s:aD),(parts c s).length<=s.length+1
 |[]=>by simp[parts]
 |b :: r=>by
  by_cases h:b=c
  ·subst h;rw[oz];have:=sK b r;simp;omega
  ·obtain⟨x,t,h1,h2⟩:=mn (c:=c) (b:=b) (r:=r) h
   have:=sK c r;rw[h1]at this;rw[h2];simp at this ⊢;omega
def oI(c:UInt8):∀(s:aD),∀y∈parts c s,y.length<=s.length
 |[],y,h=>by simp[parts]at h;simp[h]
 |b :: r,y,h=>by
  by_cases hb:b=c
  ·subst hb;rw[oz]at h
   rcases ag.1 h with rfl|h
   ·simp
   ·have:=oI b r y h;simp;omega
  ·obtain⟨x,t,h1,h2⟩:=mn (c:=c) (b:=b) (r:=r) hb
   rw[h2]at h;rcases ag.1 h with rfl|h
   ·have:=oI c r x (by rw[h1];simp);simp;omega
   ·have:=oI c r y (by rw[h1];simp[h]);simp;omega
def xj{b c:UInt8}{l:aD}(h:b≠c):bm (b :: l) [c]=if bm l [c] == -1 then -1 else bm l [c]+1:=by
 rw[bm];simp[cm,Ne.symm h]
def xk{c:UInt8}{l:aD}:bm (c :: l) [c]=0:=by
 rw[bm];simp[cm]
def rX(c:UInt8):∀s:aD,cn [c] 0 (s.count c) s=parts c s
 |[]=>rfl
 |b :: l=>by
  by_cases h:b=c
  ·subst h
   rw[oz,List.count_cons_self,cn,xk,if_neg (by decide),<-rX b l];simp
  ·obtain⟨x,t,h1,h2⟩:=mn (c:=c) (b:=b) (r:=l) h
   rw[h2,List.count_cons_of_ne h];rw[<-rX c l]at h1;cases hk:l.count c with
   |zero=>
    rw[hk]at h1;simp only[cn]at h1 ⊢;cases h1;rfl
   |succ k=>
    rw[hk]at h1;have hi:bm l [c]≠-1:=by
     intro e;have:=Lib.count_miss (s:=l) (sub:=[c]) e;rw[Lib.count_one]at this;omega
    have hge:=Lib.index_ge l [c];rw[cn,if_neg (by simpa using hi)]at h1;obtain⟨i,e⟩:∃i:Nat,bm l [c]=i:=⟨(bm l [c]).toNat,by omega⟩
    have e2:bm (b :: l) [c]=((i+1:Nat):Int):=by rw[xj h,if_neg (by simpa using hi),e];rfl
    rw[cn,e2,if_neg (by simp;omega)];rw[e]at h1;simp only[dv,Nat.add_zero,da,fc,List.drop_succ_cons,List.cons.injEq]at h1 ⊢;exact⟨⟨aa,h1.1⟩,h1.2⟩
def qR(c:UInt8)(L:List aD):aD:=L.flatMap (· ++ [c])
def Eu(c:UInt8)(x:aD)(L:List aD):qR c (x :: L)=x++c :: qR c L:=by simp[qR]
def Ev{c:UInt8}:∀{L:List aD},L≠[]->qR c L=nG c L++[c]
 |[],h=>absurd rfl h
 |[x],_=>by simp[qR,nG]
 |x :: y :: r,_=>by
  rw[Eu,Ev (L:=y :: r) (by simp)];simp[nG]
def tY(x:aD)(c:UInt8):ae (x++[c]) [c]=x:=by
 have h:Lib.hasSuffix (x++[c]) [c]=true:=by unfold Lib.hasSuffix;simp[List.isSuffixOf_iff_suffix]
 unfold ae;rw[if_pos h];simp
def MF{c:UInt8}{L:List aD}(h:L≠[])(hf:∀y∈L,c∉y):parts c (ae (qR c L) [c])=L:=by
 rw[Ev h,tY,tm h hf]
def xl{k:Nat}(h:k<10):(ed (48+k)).toNat=48+k:=by
 rw[er];omega
def pw:∀(u:Nat),∀c∈ay u,48<=c.toNat/\c.toNat<=57:=by
 intro u;induction u using fe with
 |_ u ih=>
  intro c hc;by_cases h:u<10
  ·rw[ay,dif_pos h]at hc
   simp only[db]at hc;rw[hc,xl h];omega
  ·rw[ay,dif_neg h]at hc
   rcases au.1 hc with hc|hc
   ·exact ih _ (by omega) c hc
   ·simp only[db]at hc
    rw[hc,xl (Nat.mod_lt _ (by decide))];omega
def xm(u:Nat):ay u≠[]:=by
 rw[ay];split <;> simp
def oA:∀(k u:Nat),u<10^(k+1)->(ay u).length<=k+1
 |0,u,h=>by rw[ay,dif_pos (by simpa using h)];simp
 |k+1,u,h=>by
  rw[ay];split
  ·simp
  ·have:=oA k (u / 10) (by rw[Nat.pow_succ]at h;omega)
   simp;exact this
def Ew:∀(l:aD) (c:UInt8) (a v:Nat),bo a l=.ok v->bo a (l++[c])=bo v [c]
 |[],c,a,v,h=>by simp[bo]at h;rw[h];rfl
 |b :: l,c,a,v,h=>by
  rw[ee,bo];rw[bo]at h;split at h
  ·rename_i hb
   rw[if_pos hb];split at h
   ·cases h
   ·rename_i h1
    rw[if_neg h1];split at h
    ·cases h
    ·rename_i h2
     rw[if_neg h2];exact Ew l c _ v h
  ·cases h
def Hv{v d:Nat}(hd:d<10)(h:10*v+d<18446744073709551616):bo v [ed (48+d)]=.ok (10*v+d):=by
 unfold bo;rw[xl hd,if_pos (by omega),if_neg (by omega),if_neg (by omega)];unfold bo;congr 1;omega
def SC:∀u:Nat,u<18446744073709551616->bo 0 (ay u)=.ok u:=by
 intro u;induction u using fe with
 |_ u ih=>
  intro hu;by_cases h:u<10
  ·rw[ay,dif_pos h]
   have:=Hv (v:=0) (d:=u) h (by omega);simpa using this
  ·rw[ay,dif_neg h,Ew _ _ _ _ (ih _ (by omega) (by omega)),Hv (Nat.mod_lt _ (by decide)) (by omega)]
   congr 1;omega
def K7{u:Nat}(hu:u<18446744073709551616):Lib.parseMag (ay u)=.ok u:=by
 unfold Lib.parseMag;rw[if_neg (xm u),SC u hu]
def Pl{n:Int}(h0 : -9223372036854775808<=n)(h1:n<=9223372036854775807):b6 (ab n)=.ok n:=by
 by_cases hn:n<0
 ·have hm:=K7 (u:=n.natAbs) (by omega)
  simp only[ab,if_pos hn,b6];rw[if_pos (Or.inr (by decide)),hm];simp only;rw[if_neg (by simp),if_neg (by simp;omega)];simp;omega
 ·have hm:=K7 (u:=n.toNat) (by omega)
  simp only[ab,if_neg hn,b6];cases hd:ay n.toNat with
  |nil=>exact absurd hd (xm _)
  |cons c r=>
   have hc:=pw n.toNat c (by rw[hd];simp);rw[hd]at hm;simp only;rw[if_neg (by omega),hm];simp only;rw[if_neg (by omega),if_neg (by omega),if_neg (by omega)];congr 1;omega
def dZ(s:List UInt8):Int×aL:=match b6 s with
 |.ok n=>(n,.nil)
 |Lib.NumEnd.syntax=>(0,.other)
 |.range=>(Lib.atoiSat s,.other)
def cS(s:aD):Option Int:=match b6 s with
 |.ok n=>if ab n=s then some n else none
 |_=>none
def Pm{n:Int}(h0 : -9223372036854775808<=n)(h1:n<=9223372036854775807):cS (ab n)=some n:=by
 unfold cS;rw[Pl h0 h1];simp
def qD{s:aD}:(cS s).isNone=(!(dZ s).2.isNil || !decide (ab (dZ s).1=s)):=by
 unfold cS dZ;cases b6 s with
 |ok v=>simp only[aL.isNil];by_cases h:ab v=s <;> simp[h]
 |range=>rfl
 |_=>rfl
def Ey{n:Int}{c:UInt8}(h:c.toNat<=44):c∉ab n:=by
 intro hc;have h45:(45:UInt8).toNat=45:=rfl;unfold ab at hc;split at hc
 ·rcases ag.1 hc with rfl|hc
  ·omega
  ·have:=pw _ c hc;omega
 ·have:=pw _ c hc;omega
def mD(n:Int):Nat:=2*n.natAbs+(if n<0 then 1 else 0)
def Xp{n:Int}(h:n<0):mD (-n)<mD n:=by unfold mD;rw[if_neg (by omega),if_pos h];omega
def Pn{n:Int}(h:n<0):ab n=[45]++ab (-n):=by
 unfold ab;rw[if_pos h,if_neg (by omega)];congr 2;omega
def AH{n:Int}(h:0<=n)(h':n<10):ab n=[ed (48+n).toNat]:=by
 unfold ab;rw[if_neg (by omega),ay,dif_pos (by omega)];congr 2;omega
def mY{f:Int}(h0:0<=f)(h:(aI f).isNil=false):f > 0:=by
 have:¬f=0:=fun e=>by rw[aP.2 e]at h;cases h
 omega
def dE{f:Int}(h:(aI f).isNil=true):f<=0:=by
 have:=aP.1 h;omega
def Ez{t:Ty}{l:List (D t)}{i j:Nat}(h:j<i):nth t (ai 0 (ah i l)) j=nth t l j:=by
 rw[ef,AE h]
def EA{α:Type}{l:List α}{i:Nat}(h:i<=l.length):(ai 0 (ah i l)).length=i:=by
 rw[ef,bh];omega
def iG(b:Bool):List UInt8:=if b=true then[119,101,97,107,32]else[]
def yu(s:aD):aD:=[110,101,101,100,32]++s++[10]
def u5(n:Int):aD:=[119,111,114,100,32]++ab n++[10]
def Dj(y:D aS):aD:=iG y.2.2.1++[115,121,109,98,111,108,32]++y.1++[32]++ab y.2.1++[10]
def tn(t:D bC):aD:=
 if t.2.1=1 then[98,97,115,101,32]++ab t.1++[32]++ab t.2.2.1++[10]
 else if t.2.1=2 then iG t.2.2.2.2.1++[119,104,111,108,101,32]++ab t.1++[32]++ab t.2.2.1++[32]++t.2.2.2.1++[10]
 else iG t.2.2.2.2.1++[110,101,97,114,32]++ab t.1++[32]++ab t.2.2.1++[32]++t.2.2.2.1++[10]
def px(o:D aB)(i:Nat):aD:=(o.1.take i).flatMap yu
def nQ(o:D aB)(i:Nat):aD:=px o o.1.length++(o.2.1.take i).flatMap u5
def nR(o:D aB)(i:Nat):aD:=nQ o o.2.1.length++(o.2.2.1.take i).flatMap Dj
def jA(o:D aB)(i:Nat):aD:=nR o o.2.2.1.length++(o.2.2.2.1.take i).flatMap tn
def iH(o:D aB):aD:=jA o o.2.2.2.1.length
def ku(o:D aB):aD×aL:=if cY o≠0 then([],aI (cY o))else if(iH o).length > 1200 then([],.no 2)else(iH o,.nil)
def Po{o:D aB}{i:Nat}(h:i<o.1.length):px o (i+1)=px o i++yu (nth .str o.1 i):=by
 unfold px;rw[ie (t:=.str) h];simp
def Pp{o:D aB}{i:Nat}(h:i<o.2.1.length):nQ o (i+1)=nQ o i++u5 (nth (.int .i64) o.2.1 i):=by
 unfold nQ;rw[ie (t:=.int .i64) h];simp
def Pq{o:D aB}{i:Nat}(h:i<o.2.2.1.length):nR o (i+1)=nR o i++Dj (nth aS o.2.2.1 i):=by
 unfold nR;rw[ie (t:=aS) h];simp
def xn{o:D aB}{i:Nat}(h:i<o.2.2.2.1.length):jA o (i+1)=jA o i++tn (nth bC o.2.2.2.1 i):=by
 unfold jA;rw[ie (t:=bC) h];simp
def Pr(o:D aB):nQ o 0=px o o.1.length:=by unfold nQ;simp
def Ps(o:D aB):nR o 0=nQ o o.2.1.length:=by unfold nR;simp
def Pu(o:D aB):jA o 0=nR o o.2.2.1.length:=by unfold jA;simp
def Nm(s:aD):Prop:=s≠[]/\s.length<=8/\∀c∈s,c≠10/\c≠32
def ij(a b x:Int):Prop:=a<=x/\x<=b
structure B5 (t:D bC):Prop where
 a:ij 0 39 t.1
 w:ij (-2147483648) 2147483647 t.2.2.1
 k:t.2.1=1\/t.2.1=2\/t.2.1=3
 base:t.2.1=1->t.2.2.2.1=[]/\t.2.2.2.2.1=false
 nm:t.2.1≠1->Nm t.2.2.2.1
structure kZ (o:D aB):Prop where
 n4:o.1.length<=4
 w1:1<=o.2.1.length
 Up:o.2.1.length<=40
 s8:o.2.2.1.length<=8
 t6:o.2.2.2.1.length<=6
 Gd:∀s∈o.1,Nm s
 words:∀n∈o.2.1,ij (-2147483648) 2147483647 n
 syms:∀y∈o.2.2.1,Nm y.1/\ij 0 39 y.2.1
 MG:∀t∈o.2.2.2.1,B5 t
def zB:∀(l p:List aD),jz p l=0->∀s∈l,aO s=0
 |[],_,_,s,h=>absurd h (by simp)
 |x :: r,p,h,s,hs=>by
  have hx:=eV x;unfold jz at h;split at h
  ·omega
  ·split at h
   ·cases h
   ·rcases ag.1 hs with rfl|hs
    ·omega
    ·exact zB r _ h s hs
def zC:∀(l:List Int),kQ l=0->∀n∈l,ib n=true
 |[],_,s,h=>absurd h (by simp)
 |x :: r,h,s,hs=>by
  unfold kQ at h;split at h
  ·rename_i hx
   rcases ag.1 hs with rfl|hs
   ·exact hx
   ·exact zC r h s hs
  ·cases h
def B6(n:Nat):∀(l p:List (D aS)),ic n p l=0->∀y∈l,aO y.1=0/\ij 0 (n-1) y.2.1
 |[],_,_,s,h=>absurd h (by simp)
 |x :: r,p,h,s,hs=>by
  have hx:=eV x.1;unfold ic at h;split at h
  ·omega
  ·split at h
   ·cases h
   ·rename_i h2
    split at h
    ·cases h
    ·rcases ag.1 hs with rfl|hs
     ·exact⟨by omega,ao.1 fun e=>h2 (.inl e),fg (cp.1 fun e=>h2 (.inr e))⟩
     ·exact B6 n r _ h s hs
def EB{n:Nat}{p:Option Int}{t:D bC}(h:mX n p t=0) :
  ij 0 (n-1) t.1/\ib t.2.2.1=true/\ij 1 3 t.2.1/\(t.2.1=1->t.2.2.2.1=[]/\t.2.2.2.2.1=false)/\(t.2.1≠1->aO t.2.2.2.1=0):=by
 unfold mX at h;split at h
 ·cases h
 ·rename_i h1
  split at h
  ·cases h
  ·rename_i h2
   refine⟨⟨ao.1 fun e=>h1 (.inl e),fg (cp.1 fun e=>h1 (.inr (.inl e)))⟩,?_,⟨ao.1 fun e=>h2 (.inl e),ao.1 fun e=>h2 (.inr (.inl e))⟩,?_,?_⟩
   ·cases hw:ib t.2.2.1 with
    |true=>rfl
    |false=>exact absurd (.inr (.inr hw)) h1
   ·intro e
    rw[if_pos e]at h;split at h
    ·cases h
    ·rename_i h3
     refine⟨aq fun e=>h3 (.inl e),?_⟩;cases hb:t.2.2.2.2.1 with
     |false=>rfl
     |true=>exact absurd (.inr hb) h3
   ·intro e
    rw[if_neg e]at h;exact h
def u6(n:Nat):∀(l:List (D bC)) (p:Option Int),kR n p l=0->∀t∈l,∃p,mX n p t=0
 |[],_,_,s,h=>absurd h (by simp)
 |x :: r,p,h,s,hs=>by
  unfold kR at h;split at h
  ·rename_i h0;exact absurd h h0
  ·rename_i h0
   rcases ag.1 hs with rfl|hs
   ·exact⟨p,aq h0⟩
   ·exact u6 n r _ h s hs
def B7{s:aD}(h:aO s=0):Nm s:=by
 unfold aO at h;split at h
 ·cases h
 ·rename_i hl
  split at h
  ·cases h
  ·rename_i hb
   refine⟨by rintro rfl;simp at hl,by omega,fun c hc =>?_⟩;obtain⟨i,hi,rfl⟩:=dw hc;have hn:ko i (dS s i)=false:=by
    unfold tT at hb;rw[fh,cy]at hb;have:=hb i (by simpa using hi);simpa using this
   have he:dS s i=s[i]:=by unfold dS;simp[hi]
   rw[he]at hn;constructor
   ·intro e;rw[e]at hn;unfold ko small other at hn;simp at hn
   ·intro e;rw[e]at hn;unfold ko small other at hn;simp at hn
def three{x:Int}(h:1<=x)(h':x<=3):x=1\/x=2\/x=3:=by omega
def mZ{o:D aB}(h:cY o=0):kZ o:=by
 unfold cY at h;split at h
 ·cases h
 ·rename_i hm
  split at h
  ·rename_i h1;exact absurd h h1
  ·rename_i h1
   split at h
   ·rename_i h2;exact absurd h h2
   ·rename_i h2
    split at h
    ·rename_i h3;exact absurd h h3
    ·rename_i h3
     have h1:=aq h1;have h2:=aq h2;have h3:=aq h3;unfold lZ at hm;have hw:o.2.1.length<=40:=bc.1 fun e=>hm (.inr (.inr (.inl e)))
     refine⟨bc.1 fun e=>hm (.inl e),bc.1 fun e=>hm (.inr (.inl e)),hw,bc.1 fun e=>hm (.inr (.inr (.inr (.inl e)))),bc.1 fun e=>hm (.inr (.inr (.inr (.inr e)))),
      fun s hs=>B7 (zB _ _ h1 s hs),fun n hn =>?_,fun y hy =>?_,fun t ht =>?_⟩
     ·have:=zC _ h2 n hn
      unfold ib at this;simp only[af,decide_eq_true_eq]at this;exact this
     ·obtain⟨a,b,c⟩:=B6 _ _ _ h3 y hy
      exact⟨B7 a,b,b7 c (by omega)⟩
     ·obtain⟨p,hp⟩:=u6 _ _ _ h t ht
      obtain⟨⟨a,b⟩,c,⟨d,e⟩,f,g⟩:=EB hp;unfold ib at c;simp only[af,decide_eq_true_eq]at c;exact⟨⟨a,b7 b (by omega)⟩,c,three d e,f,fun e=>B7 (g e)⟩
def dF{a b n:Int}(h:ij a b n)(ha : -999999999999999999<=a)(hb:b<=999999999999999999):(ab n).length<=19:=by
 obtain⟨h0,h1⟩:=h;unfold ab;split
 ·rw[cj]
  have:=oA 17 n.natAbs (by omega);omega
 ·have:=oA 17 n.toNat (by omega)
  omega
def sL(b:Bool):(iG b).length<=5:=by cases b <;> decide
def Pv{s:aD}(h:Nm s):(yu s).length<=64:=by have:=h.2.1;simp[yu];omega
def Pw{n:Int}(h:ij (-2147483648) 2147483647 n):(u5 n).length<=64:=by have:=dF h (by decide) (by decide);simp[u5];omega
def SD{y:D aS}(h:Nm y.1/\ij 0 39 y.2.1):(Dj y).length<=64:=by
 have h1:=dF h.2 (by decide) (by decide);have h2:=sL y.2.2.1;have h3:=h.1.2.1;simp[Dj];omega
def SE{t:D bC}(h:B5 t):(tn t).length<=64:=by
 have h1:=dF h.a (by decide) (by decide);have h4:=dF h.w (by decide) (by decide);have h2:=sL t.2.2.2.2.1;unfold tn;split
 ·simp;omega
 ·rename_i hk
  have h3:=(h.nm hk).2.1;split
  ·simp;omega
  ·simp;omega
def oJ{α:Type}{f:α->aD}:∀{l:List α},(∀x∈l,(f x).length<=64)->(l.flatMap f).length<=64*l.length
 |[],_=>by simp
 |x :: r,h=>by
  have h1:=h x (by simp);have h2:=oJ (f:=f) (l:=r) fun y hy=>h y (cd _ hy)
  rw[bx,aw,cj];omega
def kZ.Hw{o:D aB}(h:kZ o)(i:Nat):(px o i).length<=1000:=by
 have:=oJ (f:=yu) (l:=o.1.take i) fun s hs=>Pv (h.Gd s (b8 hs))
 have h2:=h.n4;unfold px;simp only[bh]at this;omega
def kZ.AI{o:D aB}(h:kZ o)(i:Nat):(nQ o i).length<=4000:=by
 have h0:=h.Hw o.1.length;have:=oJ (f:=u5) (l:=o.2.1.take i) fun s hs=>Pw (h.words s (b8 hs))
 have h2:=h.Up;unfold nQ;rw[aw];simp only[bh]at this;omega
def kZ.Wr{o:D aB}(h:kZ o)(i:Nat):(nR o i).length<=5000:=by
 have h0:=h.AI o.2.1.length;have:=oJ (f:=Dj) (l:=o.2.2.1.take i) fun s hs=>SD (h.syms s (b8 hs))
 have h2:=h.s8;unfold nR;rw[aw];simp only[bh]at this;omega
def kZ.Xj{o:D aB}(h:kZ o)(i:Nat):(jA o i).length<=6000:=by
 have h0:=h.Wr o.2.2.1.length;have:=oJ (f:=tn) (l:=o.2.2.2.1.take i) fun s hs=>SE (h.MG s (b8 hs))
 have h2:=h.t6;unfold jA;rw[aw];simp only[bh]at this;omega
def kZ.xp{o:D aB}(h:kZ o){i:Nat}(hi:i<o.1.length):Nm (nth .str o.1 i):=h.Gd _ (dQ (t:=.str) hi)
def kZ.word{o:D aB}(h:kZ o){i:Nat}(hi:i<o.2.1.length):ij (-2147483648) 2147483647 (nth (.int .i64) o.2.1 i):=h.words _ (dQ (t:=.int .i64) hi)
def kZ.sym{o:D aB}(h:kZ o){i:Nat}(hi:i<o.2.2.1.length):Nm (nth aS o.2.2.1 i).1/\ij 0 39 (nth aS o.2.2.1 i).2.1:=h.syms _ (dQ (t:=aS) hi)
def kZ.tie{o:D aB}(h:kZ o){i:Nat}(hi:i<o.2.2.2.1.length):B5 (nth bC o.2.2.2.1 i):=h.MG _ (dQ (t:=bC) hi)
def JV(a b:aD):bJ a++bJ b=bJ (a++b):=by simp[bJ]
def zD(a:aD):(bJ a).length=a.length:=by simp[bJ]
def EC{o:D aB}(h:kZ o){i:Nat}(hi:i<o.1.length):(nth .str o.1 i).length<=8/\(px o i).length<=1000:=⟨(h.xp hi).2.1,h.Hw i⟩
def ED{o:D aB}(h:kZ o){i:Nat}(hi:i<o.2.1.length):(ab (nth (.int .i64) o.2.1 i)).length<=19/\(nQ o i).length<=4000:=
 ⟨dF (h.word hi) (by decide) (by decide),h.AI i⟩
def Hx{o:D aB}(h:kZ o){i:Nat}(hi:i<o.2.2.1.length) :
  (nth aS o.2.2.1 i).1.length<=8/\(ab (nth aS o.2.2.1 i).2.1).length<=19/\(iG (nth aS o.2.2.1 i).2.2.1).length<=5/\(nR o i).length<=5000:=
 ⟨(h.sym hi).1.2.1,dF (h.sym hi).2 (by decide) (by decide),sL _,h.Wr i⟩
def Hy{o:D aB}(h:kZ o){i:Nat}(hi:i<o.2.2.2.1.length) :
  (nth bC o.2.2.2.1 i).2.2.2.1.length<=8/\(ab (nth bC o.2.2.2.1 i).1).length<=19/\(ab (nth bC o.2.2.2.1 i).2.2.1).length<=19/\(iG (nth bC o.2.2.2.1 i).2.2.2.2.1).length<=5/\(jA o i).length<=6000:=by
 have ht:=h.tie hi;refine⟨?_,dF ht.a (by decide) (by decide),dF ht.w (by decide) (by decide),sL _,h.Xj i⟩;by_cases hk:(nth bC o.2.2.2.1 i).2.1=1
 ·rw[(ht.base hk).1];decide
 ·exact(ht.nm hk).2.1
def oK{p p' q:aD}{a b:Int}(h:p'=p++q):(((bJ p++bJ q,a,b,()):D kz))=((bJ p',a,b,()):D kz):=by rw[h,JV]
def AJ{p p':aD}{a b:Int}(h:p=p'):((bJ p,a,b,()):D kz)=((bJ p',a,b,()):D kz):=by rw[h]
def MH{o:D aB}{i:Nat}(h:i<o.2.2.2.1.length)(hk:(nth bC o.2.2.2.1 i).2.1=1) :
  jA o (i+1)=jA o i++([98,97,115,101,32]++ab (nth bC o.2.2.2.1 i).1++[32]++ab (nth bC o.2.2.2.1 i).2.2.1++[10]):=by
 rw[xn h];unfold tn;rw[if_pos hk]
def MI{o:D aB}{i:Nat}(h:i<o.2.2.2.1.length)(hk:¬(nth bC o.2.2.2.1 i).2.1=1)(hk2:(nth bC o.2.2.2.1 i).2.1=2) :
  jA o (i+1)=jA o i++(iG (nth bC o.2.2.2.1 i).2.2.2.2.1++[119,104,111,108,101,32]++ab (nth bC o.2.2.2.1 i).1++[32]++ab (nth bC o.2.2.2.1 i).2.2.1++[32]++(nth bC o.2.2.2.1 i).2.2.2.1++[10]):=by
 rw[xn h];unfold tn;rw[if_neg hk,if_pos hk2]
def MJ{o:D aB}{i:Nat}(h:i<o.2.2.2.1.length)(hk:¬(nth bC o.2.2.2.1 i).2.1=1)(hk2:¬(nth bC o.2.2.2.1 i).2.1=2) :
  jA o (i+1)=jA o i++(iG (nth bC o.2.2.2.1 i).2.2.2.2.1++[110,101,97,114,32]++ab (nth bC o.2.2.2.1 i).1++[32]++ab (nth bC o.2.2.2.1 i).2.2.1++[32]++(nth bC o.2.2.2.1 i).2.2.2.1++[10]):=by
 rw[xn h];unfold tn;rw[if_neg hk,if_neg hk2]
def EE{o:D aB}(h:cY o≠0):ku o=([],aI (cY o)):=by unfold ku;rw[if_pos h]
def B8{o:D aB}(h:cY o=0){i:Nat}(hi:i=o.2.2.2.1.length)(hl:(jA o i).length > 1200):ku o=([],.no 2):=by
 unfold ku;rw[if_neg (by rw[h];decide),if_pos (by unfold iH;rw[<-hi];exact hl)]
def u7{o:D aB}(h:cY o=0){i:Nat}(hi:i=o.2.2.2.1.length)(hl:(jA o i).length<=1200):ku o=(jA o i,.nil):=by
 unfold ku;rw[if_neg (by rw[h];decide),if_neg (by unfold iH;rw[<-hi];omega)];unfold iH;rw[<-hi]
@[reducible] def dW:aD:=[119,101,97,107,32]
@[reducible] def kv:aD:=[110,101,101,100]
@[reducible] def jW:aD:=[119,111,114,100]
@[reducible] def ji:aD:=[115,121,109,98,111,108]
@[reducible] def mK:aD:=[98,97,115,101]
@[reducible] def lE:aD:=[119,104,111,108,101]
@[reducible] def lh:aD:=[110,101,97,114]
def pW(o:D aB)(s:aD):D aB:=(o.1++[s],o.2)
def pX(o:D aB)(n:Int):D aB:=(o.1,o.2.1++[n],o.2.2)
def tZ(o:D aB)(y:D aS):D aB:=(o.1,o.2.1,o.2.2.1++[y],o.2.2.2)
def py(o:D aB)(t:D bC):D aB:=(o.1,o.2.1,o.2.2.1,o.2.2.2.1++[t],())
def AK(x y:aD)(k:Int->Int->D aB):Option (D aB):=
 match cS x,cS y with
 |some m,some n=>some (k m n)
 |_,_=>none
def nc(o:D aB)(b:Bool):List aD->Option (D aB)
 |[a,x]=>if a=kv then some (pW o x)else if a=jW then(cS x).map (pX o)else none
 |[a,x,y]=>if a=ji then(cS y).map fun n=>tZ o (x,n,b,())else if a=mK then AK x y fun m n=>py o (m,1,n,[],false,())else none
 |[a,x,y,z]=>if a=lE\/a=lh then AK x y fun m n=>py o (m,if a=lh then 3 else 2,n,z,b,())else none
 |_=>none
def pz(o:D aB)(s:aD):Option (D aB):=nc o (av s dW) (parts 32 (ax s dW))
def run(f:D aB->aD->Option (D aB)):D aB->List aD->Option (D aB)
 |o,[]=>some o
 |o,s :: r=>match f o s with
  |some p=>run f p r
  |none=>none
def Hz{f:D aB->aD->Option (D aB)}:∀{l:List aD} {o:D aB} {s:aD},run f o (l++[s])=(run f o l).bind fun p=>f p s
 |[],o,s=>by simp only[ey,run,fj];cases f o s <;> rfl
 |x :: r,o,s=>by
  simp only[ee,run];cases f o x with
  |none=>rfl
  |some p=>exact Hz
def yv{f:D aB->aD->Option (D aB)}:∀{l m:List aD} {o p:D aB},run f o l=some p->run f o (l++m)=run f p m
 |[],m,o,p,h=>by simp only[run,df]at h;rw[h];rfl
 |x :: r,m,o,p,h=>by
  simp only[run]at h;simp only[ee,run];cases hx:f o x with
  |none=>rw[hx]at h;cases h
  |some q=>rw[hx]at h;exact yv h
def pA(s:aD):aD:=[110,101,101,100,32]++s
def pB(n:Int):aD:=[119,111,114,100,32]++ab n
def AL(y:D aS):aD:=iG y.2.2.1++([115,121,109,98,111,108,32]++(y.1++32 :: ab y.2.1))
def xq(t:D bC):aD:=
 if t.2.1=1 then[98,97,115,101,32]++(ab t.1++32 :: ab t.2.2.1)
 else if t.2.1=2 then iG t.2.2.2.2.1++([119,104,111,108,101,32]++(ab t.1++32 :: (ab t.2.2.1++32 :: t.2.2.2.1)))
 else iG t.2.2.2.2.1++([110,101,97,114,32]++(ab t.1++32 :: (ab t.2.2.1++32 :: t.2.2.2.1)))
def qE(o:D aB):List aD:=o.1.map pA++(o.2.1.map pB++(o.2.2.1.map AL++o.2.2.2.1.map xq))
def rY{α:Type}{f g:α->aD}(h:∀x,f x=g x++[10]):∀l:List α,l.flatMap f=qR 10 (l.map g)
 |[]=>rfl
 |x :: r=>by rw[bx,rY h r,aj,Eu,h];simp
def AM(c:UInt8)(l m:List aD):qR c (l++m)=qR c l++qR c m:=by simp[qR]
def JW(o:D aB):iH o=qR 10 (qE o):=by
 unfold iH jA nR nQ px qE;rw[cb,cb,cb,cb,AM,AM,AM,
  rY (g:=pA) (fun s=>by simp[yu,pA]) o.1,rY (g:=pB) (fun s=>by simp[u5,pB]) o.2.1,
  rY (g:=AL) (fun s=>by simp[Dj,AL]) o.2.2.1,
  rY (g:=xq) (fun s=>by unfold tn xq;split <;> (try split) <;> simp) o.2.2.2.1]
 simp
structure Reads (f:D aB->aD->Option (D aB)):Prop where
 xp:∀(o:D aB) (s:aD),Nm s->f o (pA s)=some (pW o s)
 word:∀(o:D aB) (n:Int),ij (-2147483648) 2147483647 n->f o (pB n)=some (pX o n)
 sym:∀(o:D aB) (y:D aS),Nm y.1->ij 0 39 y.2.1->f o (AL y)=some (tZ o y)
 tie:∀(o:D aB) (t:D bC),B5 t->f o (xq t)=some (py o t)
section
variable{f:D aB->aD->Option (D aB)}(h:Reads f)
include h
def EF:∀(l:List aD) (o:D aB),(∀s∈l,Nm s)->run f o (l.map pA)=some (o.1++l,o.2)
 |[],o,_=>by simp[run]
 |s :: r,o,hl=>by
  rw[aj,run,h.xp o s (hl s (by simp))];show run f (pW o s) (r.map pA)=_;rw[EF r _ fun x hx=>hl x (cd _ hx)];simp[pW]
def EG:∀(l:List Int) (o:D aB),(∀n∈l,ij (-2147483648) 2147483647 n)->run f o (l.map pB)=some (o.1,o.2.1++l,o.2.2)
 |[],o,_=>by simp[run]
 |s :: r,o,hl=>by
  rw[aj,run,h.word o s (hl s (by simp))];show run f (pX o s) (r.map pB)=_;rw[EG r _ fun x hx=>hl x (cd _ hx)];simp[pX]
def HA:∀(l:List (D aS)) (o:D aB),(∀y∈l,Nm y.1/\ij 0 39 y.2.1)->run f o (l.map AL)=some (o.1,o.2.1,o.2.2.1++l,o.2.2.2)
 |[],o,_=>by simp[run]
 |s :: r,o,hl=>by
  rw[aj,run,h.sym o s (hl s (by simp)).1 (hl s (by simp)).2];show run f (tZ o s) (r.map AL)=_;rw[HA r _ fun x hx=>hl x (cd _ hx)];simp[tZ]
def HB:∀(l:List (D bC)) (o:D aB),(∀t∈l,B5 t)->run f o (l.map xq)=some (o.1,o.2.1,o.2.2.1,o.2.2.2.1++l,())
 |[],o,_=>by simp[run]
 |s :: r,o,hl=>by
  rw[aj,run,h.tie o s (hl s (by simp))];show run f (py o s) (r.map xq)=_;rw[HB r _ fun x hx=>hl x (cd _ hx)];simp[py]
def Px{o:D aB}(ok:kZ o):run f (bW aB) (qE o)=some o:=by
 unfold qE;rw[yv (EF h o.1 _ ok.Gd),yv (EG h o.2.1 _ ok.words),yv (HA h o.2.2.1 _ ok.syms),HB h o.2.2.2.1 _ ok.MG];rfl
end
def B9{a:UInt8}{s:aD}(h:a≠119):av (a :: s) dW=false:=by
 unfold av dW;simp[cm];intro e;exact absurd e.symm h
def U4{s:aD}(h:av s dW=false):ax s dW=s:=by unfold ax;rw[if_neg (by rw[h];decide)]
def K8(s:aD):av (dW++s) dW=true:=by unfold av dW;simp[cm]
def SF(s:aD):ax (dW++s) dW=s:=by unfold ax;rw[if_pos (K8 s)];rfl
def K9{a b:UInt8}{s:aD}(h:b≠101):av (a :: b :: s) dW=false:=by
 unfold av dW;simp[cm];intro _ e;exact absurd e.symm h
def nH(o:D aB)(b:Bool)(s:aD)(h:av s dW=false):pz o (iG b++s)=nc o b (parts 32 s):=by
 unfold pz;cases b with
 |false=>show nc o (av s dW) (parts 32 (ax s dW))=_;rw[h,U4 h]
 |true=>show nc o (av (dW++s) dW) (parts 32 (ax (dW++s) dW))=_;rw[K8,SF]
def nI{s:aD}(h:Nm s):(32:UInt8)∉s/\(10:UInt8)∉s:=⟨fun hc=>(h.2.2 _ hc).2 rfl,fun hc=>(h.2.2 _ hc).1 rfl⟩
def jN(n:Int):(32:UInt8)∉ab n:=Ey (by decide)
def nf(n:Int):(10:UInt8)∉ab n:=Ey (by decide)
def MK{s:aD}(h:Nm s):parts 32 (pA s)=[kv,s]:=by
 show parts 32 (kv++32 :: s)=_;rw[hH (by decide),lN (nI h).1]
def ML(n:Int):parts 32 (pB n)=[jW,ab n]:=by
 show parts 32 (jW++32 :: ab n)=_;rw[hH (by decide),lN (jN n)]
def Py{s:aD}{n:Int}(h:Nm s):parts 32 ([115,121,109,98,111,108,32]++(s++32 :: ab n))=[ji,s,ab n]:=by
 show parts 32 (ji++32 :: (s++32 :: ab n))=_;rw[hH (by decide),hH (nI h).1,lN (jN n)]
def MM(m n:Int):parts 32 ([98,97,115,101,32]++(ab m++32 :: ab n))=[mK,ab m,ab n]:=by
 show parts 32 (mK++32 :: (ab m++32 :: ab n))=_;rw[hH (by decide),hH (jN m),lN (jN n)]
def JX{s:aD}(m n:Int)(h:Nm s):parts 32 ([119,104,111,108,101,32]++(ab m++32 :: (ab n++32 :: s)))=[lE,ab m,ab n,s]:=by
 show parts 32 (lE++32 :: (ab m++32 :: (ab n++32 :: s)))=_;rw[hH (by decide),hH (jN m),hH (jN n),lN (nI h).1]
def MN{s:aD}(m n:Int)(h:Nm s):parts 32 ([110,101,97,114,32]++(ab m++32 :: (ab n++32 :: s)))=[lh,ab m,ab n,s]:=by
 show parts 32 (lh++32 :: (ab m++32 :: (ab n++32 :: s)))=_;rw[hH (by decide),hH (jN m),hH (jN n),lN (nI h).1]
def rp{a b n:Int}(h:ij a b n)(ha : -9223372036854775808<=a)(hb:b<=9223372036854775807):cS (ab n)=some n:=Pm (b7 ha h.1) (b7 h.2 hb)
def Wt:Reads pz where
 xp o s h:=by
  have:=nH o false (pA s) (B9 (by decide));rw[show iG false++pA s=pA s from rfl,MK h]at this;exact this
 word o n h:=by
  have:=nH o false (pB n) (K9 (by decide));rw[show iG false++pB n=pB n from rfl,ML]at this;rw[this];show(if jW=kv then some (pW o (ab n))else if jW=jW then(cS (ab n)).map (pX o)else none)=_;rw[if_neg (by decide),if_pos rfl,rp h (by decide) (by decide)];rfl
 sym o y h h':=by
  have:=nH o y.2.2.1 ([115,121,109,98,111,108,32]++(y.1++32 :: ab y.2.1)) (B9 (by decide));rw[Py h]at this;refine Eq.trans this ?_;dsimp only[nc];rw[if_pos rfl,rp h' (by decide) (by decide)];rfl
 tie o t h:=by
  obtain⟨at',k,ad,nm,b,_⟩:=t;have ha:=rp h.a (by decide) (by decide);have hw:=rp h.w (by decide) (by decide);simp only at ha hw;unfold xq;rcases h.k with e|e|e
  ·have hb:=h.base e
   simp only at e hb;obtain⟨rfl,rfl⟩:=hb;subst e;rw[if_pos rfl];have:=nH o false ([98,97,115,101,32]++(ab at'++32 :: ab ad)) (B9 (by decide));rw[MM]at this;refine this.trans ?_;dsimp only[nc];rw[if_neg (by decide),if_pos rfl];unfold AK;rw[ha,hw]
  ·have hn:=h.nm (by rw[show _=_ from e];decide)
   simp only at e hn;subst e;rw[if_neg (by simp),if_pos rfl];have:=nH o b ([119,104,111,108,101,32]++(ab at'++32 :: (ab ad++32 :: nm))) (K9 (by decide));rw[JX _ _ hn]at this;refine this.trans ?_;dsimp only[nc];rw[if_pos (.inl rfl),if_neg (by decide)];unfold AK;rw[ha,hw]
  ·have hn:=h.nm (by rw[show _=_ from e];decide)
   simp only at e hn;subst e;rw[if_neg (by simp),if_neg (by simp)];have:=nH o b ([110,101,97,114,32]++(ab at'++32 :: (ab ad++32 :: nm))) (B9 (by decide));rw[MN _ _ hn]at this;refine this.trans ?_;dsimp only[nc];rw[if_pos (.inr rfl),if_pos rfl];unfold AK;rw[ha,hw]
def MO{o:D aB}(h:kZ o):∀l∈qE o,(10:UInt8)∉l:=by
 intro l hl;unfold qE at hl;simp only[au,bf]at hl;have hw:∀b,(10:UInt8)∉iG b:=by intro b;cases b <;> decide
 rcases hl with⟨s,hs,rfl⟩|⟨n,hn,rfl⟩|⟨y,hy,rfl⟩|⟨t,ht,rfl⟩
 ·have:=(nI (h.Gd s hs)).2
  unfold pA;simp[this]
 ·have:=nf n
  unfold pB;simp[this]
 ·have h1:=(nI (h.syms y hy).1).2
  have h2:=nf y.2.1;have h3:=hw y.2.2.1;unfold AL;simp[h1,h2,h3]
 ·have h1:=nf t.1
  have h2:=nf t.2.2.1;have h3:=hw t.2.2.2.2.1;unfold xq;split
  ·simp[h1,h2]
  ·rename_i hk
   have h4:=(nI ((h.MG t ht).nm hk)).2;split <;> simp[h1,h2,h3,h4]
def SG{o:D aB}(h:kZ o):qE o≠[]:=by
 have h1:=h.w1;unfold qE;intro e;simp only[List.append_eq_nil_iff,List.map_eq_nil_iff]at e;rw[e.2.1]at h1;simp at h1
def MP(s:aD):Option (D aB):=run pz (bW aB) (parts 10 (ae s [10]))
def sM{o:D aB}(h:cY o=0):MP (iH o)=some o:=by
 have ok:=mZ h;unfold MP;rw[JW,MF (SG ok) (MO ok),Px Wt ok]
def Pz{o p:D aB}(h:cY o=0)(h':cY p=0)(e:iH o=iH p):o=p:=by
 have a:=sM h;rw[e,sM h']at a;exact(dy a).symm
open Classical in
def cU(s:aD):D aB×Int:=
 if s.length > 1200 then(bW aB,2)
 else if h:∃o:D aB,cY o=0/\iH o=s then(b9 h,0)else(bW aB,4)
def EH{s:aD}(h:s.length > 1200):cU s=(bW aB,2):=by unfold cU;rw[if_pos h]
def Dl{s:aD}{o:D aB}(h:¬s.length > 1200)(hf:cY o=0)(ht:iH o=s):cU s=(o,0):=by
 have hx:∃o:D aB,cY o=0/\iH o=s:=⟨o,hf,ht⟩
 have hc:=cz hx;unfold cU;rw[if_neg h,dif_pos hx,Pz hc.1 hf (hc.2.trans ht.symm)]
def AN{s:aD}(h:¬s.length > 1200)(hn:∀o:D aB,cY o=0->iH o≠s):cU s=(bW aB,4):=by
 unfold cU;rw[if_neg h,dif_neg fun⟨o,h1,h2⟩=>hn o h1 h2]
def MQ{s:aD}(h:¬s.length > 1200)(hr:MP s=none):cU s=(bW aB,4):=
 AN h fun o h1 h2=>by rw[<-h2,sM h1]at hr;cases hr
def Ca{s:aD}{o:D aB}(h:¬s.length > 1200)(hr:MP s=some o)(hb:cY o=0->iH o≠s):cU s=(bW aB,4):=
 AN h fun p h1 h2=>by
  have:p=o:=by rw[<-h2,sM h1]at hr;exact dy hr
  rw[this]at h1 h2;exact hb h1 h2
def gF(o:D aB)(b:Bool)(s:aD):D aB×Bool:=
 let w:=parts 32 (ax s dW)
 if nth .str w 0=kv/\w.length=2 then(pW o (nth .str w 1),b)
 else if nth .str w 0=jW/\w.length=2 then(pX o (dZ (nth .str w 1)).1,b || (cS (nth .str w 1)).isNone)
 else if nth .str w 0=ji/\w.length=3 then(tZ o (nth .str w 1,(dZ (nth .str w 2)).1,av s dW,()),b || (cS (nth .str w 2)).isNone)
 else if nth .str w 0=mK/\w.length=3 then(py o ((dZ (nth .str w 1)).1,1,(dZ (nth .str w 2)).1,[],false,()),(b || (cS (nth .str w 1)).isNone) || (cS (nth .str w 2)).isNone)
 else if(nth .str w 0=lE\/nth .str w 0=lh)/\w.length=4 then
  (py o ((dZ (nth .str w 1)).1,if nth .str w 0=lh then 3 else 2,(dZ (nth .str w 2)).1,nth .str w 3,av s dW,()),(b || (cS (nth .str w 1)).isNone) || (cS (nth .str w 2)).isNone)
 else(o,true)
def ng{s:aD}{n:Int}(h:cS s=some n):(dZ s).1=n:=by
 unfold cS at h;unfold dZ;cases ha:b6 s with
 |ok v=>rw[ha]at h;simp only at h ⊢;split at h <;> simp_all
 |range=>rw[ha]at h;cases h
 |_=>rw[ha]at h;cases h
def MR(o:D aB)(b:Bool)(s:aD):(∃p,pz o s=some p/\gF o b s=(p,b))\/(pz o s=none/\(gF o b s).2=true):=by
 unfold pz gF;generalize hw:parts 32 (ax s dW)=w;generalize av s dW=k;have hne:=AG 32 (ax s dW);rw[hw]at hne
 match w,hne with
 |[],hne=>exact absurd rfl hne
 |[a],_=>exact .inr ⟨rfl,by simp⟩
 |[a,x],_=>
  dsimp only[nc];simp only[show nth .str [a,x] 0=a from rfl,show nth .str [a,x] 1=x from rfl];by_cases h1:a=kv
  ·rw[if_pos h1,if_pos (show(a=kv)/\[a,x].length=2 from⟨h1,rfl⟩)];exact .inl ⟨_,rfl,rfl⟩
  ·rw[if_neg h1,if_neg (show ¬((a=kv)/\[a,x].length=2)from fun e=>h1 e.1)]
   by_cases h2:a=jW
   ·rw[if_pos h2,if_pos (show(a=jW)/\[a,x].length=2 from⟨h2,rfl⟩)]
    cases hn:cS x with
    |none=>exact .inr ⟨rfl,by simp⟩
    |some n=>exact .inl ⟨_,rfl,by rw[ng hn];simp⟩
   ·rw[if_neg h2,if_neg (show ¬((a=jW)/\[a,x].length=2)from fun e=>h2 e.1),if_neg (show ¬((a=ji)/\[a,x].length=3)from fun e=>absurd e.2 (by simp)),if_neg (show ¬((a=mK)/\[a,x].length=3)from fun e=>absurd e.2 (by simp)),if_neg (show ¬((a=lE\/a=lh)/\[a,x].length=4)from fun e=>absurd e.2 (by simp))];exact .inr ⟨rfl,rfl⟩
 |[a,x,y],_=>
  dsimp only[nc];simp only[show nth .str [a,x,y] 0=a from rfl,show nth .str [a,x,y] 1=x from rfl,show nth .str [a,x,y] 2=y from rfl];rw[if_neg (show ¬((a=kv)/\[a,x,y].length=2)from fun e=>absurd e.2 (by simp)),if_neg (show ¬((a=jW)/\[a,x,y].length=2)from fun e=>absurd e.2 (by simp))];by_cases h1:a=ji
  ·rw[if_pos h1,if_pos (show(a=ji)/\[a,x,y].length=3 from⟨h1,rfl⟩)]
   cases hn:cS y with
   |none=>exact .inr ⟨rfl,by simp⟩
   |some n=>exact .inl ⟨_,rfl,by rw[ng hn];simp⟩
  ·rw[if_neg h1,if_neg (show ¬((a=ji)/\[a,x,y].length=3)from fun e=>h1 e.1)]
   by_cases h2:a=mK
   ·rw[if_pos h2,if_pos (show(a=mK)/\[a,x,y].length=3 from⟨h2,rfl⟩)]
    unfold AK;cases hm:cS x with
    |none=>exact .inr ⟨rfl,by simp⟩
    |some m=>
     cases hn:cS y with
     |none=>exact .inr ⟨rfl,by simp⟩
     |some n=>exact .inl ⟨_,rfl,by rw[ng hn,ng hm];simp⟩
   ·rw[if_neg h2,if_neg (show ¬((a=mK)/\[a,x,y].length=3)from fun e=>h2 e.1),if_neg (show ¬((a=lE\/a=lh)/\[a,x,y].length=4)from fun e=>absurd e.2 (by simp))];exact .inr ⟨rfl,rfl⟩
 |[a,x,y,z],_=>
  dsimp only[nc];simp only[show nth .str [a,x,y,z] 0=a from rfl,show nth .str [a,x,y,z] 1=x from rfl,show nth .str [a,x,y,z] 2=y from rfl,show nth .str [a,x,y,z] 3=z from rfl];rw[if_neg (show ¬((a=kv)/\[a,x,y,z].length=2)from fun e=>absurd e.2 (by simp)),if_neg (show ¬((a=jW)/\[a,x,y,z].length=2)from fun e=>absurd e.2 (by simp)),if_neg (show ¬((a=ji)/\[a,x,y,z].length=3)from fun e=>absurd e.2 (by simp)),if_neg (show ¬((a=mK)/\[a,x,y,z].length=3)from fun e=>absurd e.2 (by simp))];by_cases h1:a=lE\/a=lh
  ·rw[if_pos h1,if_pos (show(a=lE\/a=lh)/\[a,x,y,z].length=4 from⟨h1,rfl⟩)]
   unfold AK;cases hm:cS x with
   |none=>exact .inr ⟨rfl,by simp⟩
   |some m=>
    cases hn:cS y with
    |none=>exact .inr ⟨rfl,by simp⟩
    |some n=>exact .inl ⟨_,rfl,by rw[ng hn,ng hm];simp⟩
  ·rw[if_neg h1,if_neg (show ¬((a=lE\/a=lh)/\[a,x,y,z].length=4)from fun e=>h1 e.1)];exact .inr ⟨rfl,rfl⟩
 |a :: x :: y :: z :: u :: r,_=>exact .inr ⟨rfl,by simp⟩
def PA(o:D aB)(s:aD):(gF o true s).2=true:=by
 unfold gF;simp only[Bool.true_or];split
 ·rfl
 ·split
  ·rfl
  ·split
   ·rfl
   ·split
    ·rfl
    ·split <;> rfl
def PB(o:D aB)(b:Bool)(s:aD) :
  (gF o b s).1.1.length<=o.1.length+1/\(gF o b s).1.2.1.length<=o.2.1.length+1/\(gF o b s).1.2.2.1.length<=o.2.2.1.length+1/\(gF o b s).1.2.2.2.1.length<=o.2.2.2.1.length+1:=by
 have e:∀{α:Type} (l:List α) (x:α),(l++[x]).length<=l.length+1:=fun l x=>by simp
 have e0:∀n:Nat,n<=n+1:=fun n=>Nat.le_succ n
 unfold gF;simp only;split
 ·exact⟨e _ _,e0 _,e0 _,e0 _⟩
 ·split
  ·exact⟨e0 _,e _ _,e0 _,e0 _⟩
  ·split
   ·exact⟨e0 _,e0 _,e _ _,e0 _⟩
   ·split
    ·exact⟨e0 _,e0 _,e0 _,e _ _⟩
    ·split
     ·exact⟨e0 _,e0 _,e0 _,e _ _⟩
     ·exact⟨e0 _,e0 _,e0 _,e0 _⟩
structure lF (L:List aD) (i:Nat) (o:D aB) (b:Bool):Prop where
 le:i<=L.length
 st:(run pz (bW aB) (L.take i)=some o/\b=false)\/(run pz (bW aB) (L.take i)=none/\b=true)
 l1:o.1.length<=i
 l2:o.2.1.length<=i
 l3:o.2.2.1.length<=i
 l4:o.2.2.2.1.length<=i
def lF.zero(L:List aD):lF L 0 (bW aB) false:=⟨ar _,.inl ⟨rfl,rfl⟩,ak _,ak _,ak _,ak _⟩
def lF.next{L:List aD}{i:Nat}{o:D aB}{b:Bool}(h:lF L i o b)(hi:i<L.length):lF L (i+1) (gF o b (nth .str L i)).1 (gF o b (nth .str L i)).2:=by
 obtain⟨a1,a2,a3,a4⟩:=PB o b (nth .str L i);refine⟨hi,?_,by have:=h.l1;omega,by have:=h.l2;omega,by have:=h.l3;omega,by have:=h.l4;omega⟩;rw[ie (t:=.str) hi,Hz];rcases h.st with⟨hr,hb⟩|⟨hr,hb⟩
 ·rw[hr,fj]
  rcases MR o b (nth .str L i)with⟨p,h1,h2⟩|⟨h1,h2⟩
  ·rw[h2];exact .inl ⟨h1,hb⟩
  ·exact .inr ⟨h1,h2⟩
 ·rw[hr,hb];exact .inr ⟨rfl,PA o _⟩
abbrev Rd:=aD->aD×Int×Int
structure iI (rd:Rd):Prop where
 code:∀s,(rd s).2.2=0\/(rd s).2.2=5
 lO:∃K:List aD,K.length<=6/\∀s,(rd s).2.2=0->s∈K
def gA(ns l:List aD):List aD:=l.foldl (fun ns s=>if ns.any (· == s)=true then ns else ns++[s]) ns
def jt(rd:Rd)(s:aD):D aB:=(cU (rd s).1).1
def eL(rd:Rd)(s:aD):Int:=if(rd s).2.2=0 then(cU (rd s).1).2 else(rd s).2.2
def jb(rd:Rd):Nat->Nat->List aD->List (D aB)->List aD×List (D aB)×Int
 |0,_,ns,os=>(ns,os,0)
 |k+1,i,ns,os=>
  if i<ns.length then
   if eL rd (nth .str ns i)=0 then jb rd k (i+1) (gA ns (jt rd (nth .str ns i)).1) (os++[jt rd (nth .str ns i)])
   else([],[],eL rd (nth .str ns i))
  else(ns,os,0)
def bF(rd:Rd)(root:aD):List aD×List (D aB)×Int:=jb rd 7 0 [root] []
def Cb(s:aD):((cU s).2=0/\cY (cU s).1=0/\iH (cU s).1=s)\/cU s=(bW aB,2)\/cU s=(bW aB,4):=by
 by_cases h:s.length > 1200
 ·exact .inr (.inl (EH h))
 ·by_cases h2:∃o:D aB,cY o=0/\iH o=s
  ·obtain⟨o,h3,h4⟩:=h2
   rw[Dl h h3 h4];exact .inl ⟨rfl,h3,h4⟩
  ·exact .inr (.inr (AN h fun o h3 h4=>h2 ⟨o,h3,h4⟩))
def zE(s:aD):0<=(cU s).2:=by
 rcases Cb s with⟨h,_⟩|h|h <;> rw[h] <;> decide
def u9{s:aD}(h:(cU s).2=0):cY (cU s).1=0:=by
 rcases Cb s with⟨_,h,_⟩|h'|h'
 ·exact h
 ·rw[h']at h;cases h
 ·rw[h']at h;cases h
def Dm{rd:Rd}(h:iI rd)(s:aD):0<=eL rd s:=by
 unfold eL;split
 ·exact zE _
 ·rcases h.code s with e|e <;> rw[e] <;> decide
def kg{rd:Rd}(h:iI rd){s:aD}(e:eL rd s=0):(rd s).2.2=0/\(cU (rd s).1).2=0:=by
 unfold eL at e;rcases h.code s with c|c
 ·rw[if_pos c]at e;exact⟨c,e⟩
 ·rw[if_neg (by rw[c];decide),c]at e;cases e
def xr{rd:Rd}{s:aD}(e:¬(rd s).2.2=0):eL rd s=(rd s).2.2:=by unfold eL;rw[if_neg e]
def tp{rd:Rd}{s:aD}(e:(rd s).2.2=0):eL rd s=(cU (rd s).1).2:=by unfold eL;rw[if_pos e]
def HC(ns:List aD):gA ns []=ns:=rfl
def xu(ns l:List aD)(s:aD):gA ns (s :: l)=gA (if ns.any (· == s)=true then ns else ns++[s]) l:=rfl
def PC(ns l:List aD)(s:aD):gA ns (l++[s])=if(gA ns l).any (· == s)=true then gA ns l else gA ns l++[s]:=by
 unfold gA;rw[List.foldl_append];rfl
def La{ns:List aD}{s:aD}:ns.any (· == s)=true↔s∈ns:=by
 rw[cw];constructor
 ·rintro⟨x,hx,e⟩;rw[<-(by simpa using e:x=s)];exact hx
 ·intro h;exact⟨s,h,by simp⟩
def oL:∀(l ns:List aD),∃r,gA ns l=ns++r/\r.length<=l.length/\∀s∈r,s∈l
 |[],ns=>⟨[],by simp[HC],by simp,by simp⟩
 |x :: l,ns=>by
  rw[xu];split
  ·obtain⟨r,h1,h2,h3⟩:=oL l ns
   exact⟨r,h1,by simp;omega,fun s hs=>by simp[h3 s hs]⟩
  ·obtain⟨r,h1,h2,h3⟩:=oL l (ns++[x])
   refine⟨x :: r,by rw[h1];simp,by simp;omega,fun s hs =>?_⟩;rcases ag.1 hs with rfl|hs
   ·simp
   ·simp[h3 s hs]
def vb:∀(l ns:List aD),ns.Nodup->(gA ns l).Nodup
 |[],ns,h=>h
 |x :: l,ns,h=>by
  rw[xu];split
  ·exact vb l ns h
  ·rename_i hx
   refine vb l _ ?_;rw[fb];refine⟨h,by simp,fun a ha b hb e=>hx (La.2 ?_)⟩;simp at hb;subst hb;exact e▸ha
def HD:∀(l ns:List aD),∀s∈l,s∈gA ns l
 |[],_,s,h=>by simp at h
 |x :: l,ns,s,h=>by
  rw[xu];rcases ag.1 h with rfl|h
  ·split
   ·rename_i hx
    obtain⟨r,h1,_⟩:=oL l ns;rw[h1];exact eg _ (La.1 hx)
   ·obtain⟨r,h1,_⟩:=oL l (ns++[s])
    rw[h1];simp
  ·exact HD l _ s h
def EI{ns l:List aD}{i:Nat}(h:i<l.length):gA ns (l.take (i+1))=if(gA ns (l.take i)).any (· == nth .str l i)=true then gA ns (l.take i)else gA ns (l.take i)++[nth .str l i]:=by
 rw[ie (t:=.str) h,PC]
def sN{t:Ty}{a b:List (D t)}{i:Nat}(h:i<a.length):nth t (a++b) i=nth t a i:=by rw[pn,if_pos h]
structure la (rd:Rd) (root:aD) (i:Nat) (ns:List aD) (os:List (D aB)):Prop where
 eq:jb rd (7-i) i ns os=bF rd root
 le:i<=6
 lo:i<=ns.length
 pos:0<ns.length
 len:os.length=i
 hi:ns.length<=1+4*i
 head:nth .str ns 0=root
 nd:ns.Nodup
 xv:∀j,j<i->eL rd (nth .str ns j)=0/\nth aB os j=jt rd (nth .str ns j)
 want:∀j,j<ns.length->j≠0->∃k,k<i/\k<j/\nth .str ns j∈(nth aB os k).1
 xp:∀j,j<i->∀s∈(nth aB os j).1,s∈ns
def la.zero(rd:Rd)(root:aD):la rd root 0 [root] []:=
 ⟨rfl,by omega,by simp,by simp,rfl,by simp,rfl,by simp,fun j h=>by omega,fun j h h'=>by simp at h;omega,fun j h=>by omega⟩
def la.room{rd:Rd}{root:aD}{i:Nat}{ns:List aD}{os:List (D aB)}(ok:iI rd)(h:la rd root i ns os)(hi:i<ns.length)(hf:eL rd (nth .str ns i)=0):i+1<=6:=by
 obtain⟨K,hK,hm⟩:=ok.lO;have hsub:∀y∈ns.take (i+1),y∈K:=by
  intro y hy;obtain⟨j,hj,rfl⟩:=fN (t:=.str) hy;rw[bh]at hj;rw[AE (t:=.str) (by omega)];refine hm _ (kg ok ?_).1;rcases bg j i with hl|hl
  ·exact(h.xv j hl).1
  ·rw[show j=i by omega];exact hf
 have:=Er (h.nd.sublist (List.take_sublist (i+1) ns)) hsub;rw[bh]at this;omega
def la.fuel{rd:Rd}{root:aD}{i:Nat}{ns:List aD}{os:List (D aB)}(h:la rd root i ns os):jb rd (6-i+1) i ns os=bF rd root:=by
 rw[<-h.eq];congr 1;have:=h.le;omega
def la.bad{rd:Rd}{root:aD}{i:Nat}{ns:List aD}{os:List (D aB)}(h:la rd root i ns os)(hi:i<ns.length)(hf:¬eL rd (nth .str ns i)=0) :
  bF rd root=([],[],eL rd (nth .str ns i)):=by
 rw[<-h.fuel,jb,if_pos hi,if_neg hf]
def la.done{rd:Rd}{root:aD}{i:Nat}{ns:List aD}{os:List (D aB)}(h:la rd root i ns os)(hi:¬i<ns.length):bF rd root=(ns,os,0):=by
 rw[<-h.fuel,jb,if_neg hi]
def AO{rd:Rd}(ok:iI rd){s:aD}(hf:eL rd s=0):kZ (jt rd s):=mZ (u9 (kg ok hf).2)
def la.next{rd:Rd}{root:aD}{i:Nat}{ns:List aD}{os:List (D aB)}(ok:iI rd)(h:la rd root i ns os)(hi:i<ns.length)(hf:eL rd (nth .str ns i)=0) :
  la rd root (i+1) (gA ns (jt rd (nth .str ns i)).1) (os++[jt rd (nth .str ns i)]):=by
 have hr:=h.room ok hi hf;have ho:=AO ok hf;obtain⟨r,h1,h2,h3⟩:=oL (jt rd (nth .str ns i)).1 ns;have hn4:=ho.n4;have hlen:=h.len;have hhi:=h.hi;have hpos:=h.pos;have hos:nth aB (os++[jt rd (nth .str ns i)]) i=jt rd (nth .str ns i):=by rw[pn,if_neg (by omega),h.len,Nat.sub_self];rfl
 have hns:∀j,j<ns.length->nth .str (gA ns (jt rd (nth .str ns i)).1) j=nth .str ns j:=fun j hj=>by rw[h1,sN (t:=.str) hj]
 have hoj:∀j,j<i->nth aB (os++[jt rd (nth .str ns i)]) j=nth aB os j:=fun j hj=>sN (t:=aB) (by omega)
 refine⟨?_,hr,by rw[h1,aw];omega,by rw[h1,aw];omega,by rw[aw,h.len];rfl,by rw[h1,aw];omega,
  by rw[hns 0 hpos];exact h.head,vb _ _ h.nd,fun j hj =>?_,fun j hj h0 =>?_,fun j hj s hs =>?_⟩
 ·rw[<-h.fuel,jb,if_pos hi,if_pos hf];congr 1;omega
 ·rcases bg j i with hl|hl
  ·rw[hns j (by omega),hoj j hl];exact h.xv j hl
  ·rw[show j=i by omega,hns i hi,hos];exact⟨hf,rfl⟩
 ·rcases bg j ns.length with hl|hl
  ·obtain⟨k,k1,k2,k3⟩:=h.want j hl h0
   exact⟨k,by omega,k2,by rw[hns j hl,hoj k k1];exact k3⟩
  ·refine⟨i,by omega,by omega,?_⟩
   rw[hos,h1,pn,if_neg (by omega)];refine h3 _ (dQ (t:=.str) ?_);rw[h1,aw]at hj;omega
 ·rcases bg j i with hl|hl
  ·rw[hoj j hl]at hs
   rw[h1];exact eg _ (h.xp j hl s hs)
  ·rw[show j=i by omega,hos]at hs
   exact HD _ _ s hs
structure Scope (rd:Rd) (root:aD) (ns:List aD) (os:List (D aB)):Prop where
 le:ns.length<=6
 pos:0<ns.length
 len:os.length=ns.length
 head:nth .str ns 0=root
 nd:ns.Nodup
 xv:∀j,j<ns.length->eL rd (nth .str ns j)=0/\nth aB os j=jt rd (nth .str ns j)
 want:∀j,j<ns.length->j≠0->∃k,k<j/\nth .str ns j∈(nth aB os k).1
 xp:∀j,j<ns.length->∀s∈(nth aB os j).1,s∈ns
def Cc{rd:Rd}{root:aD}(ok:iI rd):∀(m i:Nat) (ns:List aD) (os:List (D aB)),m=7-i->la rd root i ns os->
  (∃f,0<f/\bF rd root=([],[],f))\/(∃ns os,bF rd root=(ns,os,0)/\Scope rd root ns os)
 |0,i,ns,os,hm,h=>by have:=h.le;omega
 |m+1,i,ns,os,hm,h=>by
  by_cases hi:i<ns.length
  ·by_cases hf:eL rd (nth .str ns i)=0
   ·exact Cc ok m (i+1) _ _ (by omega) (h.next ok hi hf)
   ·have:=Dm ok (nth .str ns i)
    exact .inl ⟨_,by omega,h.bad hi hf⟩
  ·have h1:=h.lo
   have h2:=h.le;have e:i=ns.length:=by omega
   subst e;exact .inr ⟨ns,os,h.done hi,h2,h.pos,h.len,h.head,h.nd,h.xv,fun j hj h0=>let⟨k,_,k2,k3⟩:=h.want j hj h0;⟨k,k2,k3⟩,h.xp⟩
def zF{rd:Rd}(ok:iI rd)(root:aD):(∃f,0<f/\bF rd root=([],[],f))\/(∃ns os,bF rd root=(ns,os,0)/\Scope rd root ns os):=
 Cc ok 7 0 _ _ rfl (la.zero rd root)
def AP{rd:Rd}(ok:iI rd){root:aD}(h:(bF rd root).2.2=0):Scope rd root (bF rd root).1 (bF rd root).2.1:=by
 rcases zF ok root with⟨f,hf,e⟩|⟨ns,os,e,h'⟩
 ·rw[e]at h;simp only at h;omega
 ·rw[e];exact h'
def Cd(rd:Rd):∀(k i:Nat) (ns:List aD) (os:List (D aB)),(jb rd k i ns os).2.2=0->∀s∈ns,s∈(jb rd k i ns os).1
 |0,_,ns,os,_=>fun s hs=>hs
 |k+1,i,ns,os,h=>by
  unfold jb at h ⊢;split
  ·rename_i hi
   rw[if_pos hi]at h;split
   ·rename_i hf
    rw[if_pos hf]at h;obtain⟨r,h1,_⟩:=oL (jt rd (nth .str ns i)).1 ns;intro s hs;exact Cd rd k _ _ _ h s (by rw[h1];exact eg _ hs)
   ·rename_i hf
    rw[if_neg hf]at h;exact absurd h hf
  ·exact fun s hs=>hs
def xw{rd rd':Rd}:∀(k i:Nat) (ns:List aD) (os:List (D aB)),(jb rd k i ns os).2.2=0->(∀s∈(jb rd k i ns os).1,rd' s=rd s)->jb rd' k i ns os=jb rd k i ns os
 |0,_,ns,os,_,_=>rfl
 |k+1,i,ns,os,h,hs=>by
  by_cases hi:i<ns.length
  ·have hm:=hs _ (Cd rd (k+1) i ns os h _ (dQ (t:=.str) hi))
   have e1:eL rd' (nth .str ns i)=eL rd (nth .str ns i):=by unfold eL;rw[hm]
   have e2:jt rd' (nth .str ns i)=jt rd (nth .str ns i):=by unfold jt;rw[hm]
   unfold jb at h hs ⊢;rw[if_pos hi]at h hs ⊢;rw[if_pos hi,e1,e2];by_cases hf:eL rd (nth .str ns i)=0
   ·rw[if_pos hf]at h hs ⊢
    rw[if_pos hf];exact xw k _ _ _ h hs
   ·rw[if_neg hf,if_neg hf]
  ·unfold jb;rw[if_neg hi,if_neg hi]
def JY{rd rd':Rd}{root:aD}(h:(bF rd root).2.2=0)(hs:∀s∈(bF rd root).1,rd' s=rd s):bF rd' root=bF rd root:=xw _ _ _ _ h hs
def jB{x:cN}(h:x.2.1.1.length<=6):iI (aK x):=by
 refine⟨fun s =>?_,x.2.1.1.map pq,by rw[ec];exact h,fun s hs =>?_⟩
 ·unfold aK;split
  ·exact .inl rfl
  ·exact .inr rfl
 ·by_cases c:cW cJ x.2.1.1 s=true
  ·obtain⟨y,hy,e⟩:=l6.1 c
   rw[<-e];exact bw hy
  ·rw[lL (by simpa using c)]at hs;cases hs
def ua:∀{s:List Int} {l:List (D aZ)} {out o:List Int},gR l s out=some o->∃ext,o=out++ext/\ext.length=s.length:=by
 intro s;induction s with
 |nil=>intro l out o h;simp only[gR,df]at h;exact⟨[],by simp[h],rfl⟩
 |cons n r ih=>
  intro l out o h;simp only[gR]at h;split at h
  ·cases h
  ·obtain⟨ext,h1,h2⟩:=ih h
   exact⟨_ :: ext,by rw[h1,cu];rfl,by simp[h2]⟩
def HE{l:List (D aZ)}{s o:List Int}{k:Nat}(hk:k<s.length)(h:gR l (s.drop k) (o.take k)=some o)(hl:o.length=s.length) :
  (nth (.int .i64) o k:Int)=gy l (cL (nth (.int .i64) s k)) 40 0/\gy l (cL (nth (.int .i64) s k)) 40 0+cL (nth (.int .i64) s k)<=256/\
  gR (l++[(gy l (cL (nth (.int .i64) s k)) 40 0,cL (nth (.int .i64) s k),())]) (s.drop (k+1)) (o.take (k+1))=some o:=by
 rw[rT hk]at h;split at h
 ·cases h
 ·rename_i hle
  obtain⟨ext,h1,h2⟩:=ua h;have hlen:(o.take k).length=k:=by rw[bh];omega
  have hget:o[k]?=some (gy l (cL (nth (.int .i64) s k)) 40 0):=by
   rw[h1,cu,List.getElem?_append_right (by omega),hlen,Nat.sub_self];rfl
  refine⟨ja (t:=.int .i64) hget,by omega,?_⟩;have:o.take (k+1)=o.take k++[gy l (cL (nth (.int .i64) s k)) 40 0]:=by
   rw[dx,hget];rfl
  rw[this];exact h
def MS{s:List Int}{l:List (D aZ)}(h:(cM (s,l)).2.isNil=true) :
  s.length<=6/\l.length<=20/\(∀j,j<s.length->1<=(nth (.int .i64) s j:Int)/\(nth (.int .i64) s j:Int)<=40)/\(∀y∈l,nN y)/\gR l s []=some (cM (s,l)).1/\(cM (s,l)).1.length=s.length:=by
 by_cases h1:6<s.length\/20<l.length
 ·rw[y5 h1]at h;cases h
 ·by_cases h2:AB s=true\/AD l=true
  ·unfold cM at h;rw[if_neg h1,if_pos h2]at h;cases h
  ·have hs:∀j,j<s.length->1<=(nth (.int .i64) s j:Int)/\(nth (.int .i64) s j:Int)<=40:=by
    intro j hj;apply aq;intro hn;rw[y7 h1 hj hn]at h;cases h
   have ht:∀j,j<l.length->nN (nth aZ l j):=by
    intro j hj;apply aq;intro hn;rw[wW h1 hj hn]at h;cases h
   rw[wX h1 hs ht]at h ⊢;refine⟨by omega,by omega,hs,fun y hy =>?_,?_⟩
   ·obtain⟨i,hi,e⟩:=fN (t:=aZ) hy;rw[<-e];exact ht i hi
   ·split at h
    ·rename_i o ho
     obtain⟨ext,k1,k2⟩:=ua ho;simp only[ho];exact⟨aa,by rw[k1];simpa using k2⟩
    ·cases h
end Go.Mrl
namespace Go.Mrl
open Go.Vg
def JZ{n:Int}:n<=cL n/\cL n<n+16:=by unfold cL;omega
end Go.Mrl

namespace Go.Mrl
open Go.Vg
def iZ(s:List Int):Nat->Int
 |0=>0
 |k+1=>iZ s k+cL (nth (.int .i64) s k)
def ve(l:List (Int×Int×Unit))(S:Int):Prop:=0<=S/\(∃m:Nat,S=16*(m:Int))/\(∀y∈l,y.1+y.2.1<=S)/\∀p:Int,0<=p->p<S->∃y∈l,y.1<=p/\p<y.1+y.2.1
def ve.nil:ve [] 0:=⟨az _,⟨0,rfl⟩,fun y hy=>by simp at hy,fun p h1 h2=>by omega⟩
def ve.snoc{l:List (Int×Int×Unit)}{S m:Int}(h:ve l S)(hm:0<m)(h16:∃k:Nat,m=16*(k:Int)):ve (l++[(S,m,())]) (S+m):=by
 obtain⟨h1,⟨a,h2⟩,h3,h4⟩:=h;obtain⟨k,h5⟩:=h16;refine⟨by omega,⟨a+k,by omega⟩,fun y hy =>?_,fun p h6 h7 =>?_⟩
 ·rcases au.1 hy with hy|hy
  ·have:=h3 y hy;omega
  ·simp only[db]at hy;subst hy;simp only;omega
 ·by_cases c:p<S
  ·obtain⟨y,hy,h8⟩:=h4 p h6 c
   exact⟨y,by simp[hy],h8⟩
  ·exact⟨(S,m,()),by simp,by simp only;omega⟩
def ve.base{l:List (Int×Int×Unit)}{S many:Int}(h:ve l S)(hm:0<many):∀(n:Nat) (k:Nat),16*(k:Int)<=S->S-16*(k:Int)<16*(n:Int)->gy l many n (16*(k:Int))=S:=by
 obtain⟨h1,⟨a,h2⟩,h3,h4⟩:=h;intro n;induction n with
 |zero=>intro k hk hn;omega
 |succ n ih=>
  intro k hk hn;by_cases c:16*(k:Int)=S
  ·rw[c]
   apply qg;refine B1 fun j hj =>?_
   have:=h3 _ (dQ (t:=aZ) hj);rw[JJ];simp only;omega
  ·obtain⟨y,hy,h8,h9⟩:=h4 (16*(k:Int)) (by omega) (by omega)
   have hf:iY (16*(k:Int),many,()) l=false:=by
    obtain⟨j,hj,e⟩:=fN (t:=aZ) hy;refine yZ hj ?_;rw[e,wV];simp only;omega
   rw[El hf,show 16*(k:Int)+16=16*((k+1:Nat):Int) by omega];exact ih (k+1) (by omega) (by omega)
def U5{n:Int}(h:1<=n):∃k:Nat,cL n=16*(k:Int):=⟨((n+15) / 16).toNat,by unfold cL;omega⟩
def MT{s:List Int}(hs:∀j,j<s.length->1<=(nth (.int .i64) s j:Int)/\(nth (.int .i64) s j:Int)<=40):∀d k,k+d<=s.length->iZ s k<=iZ s (k+d):=by
 intro d;induction d with
 |zero=>intro k _;exact az _
 |succ d ih=>
  intro k hk;have h1:=ih k (by omega);have h2:=hs (k+d) (by omega);have h3:=ly h2.1 h2.2;have e:iZ s (k+(d+1))=iZ s (k+d)+cL (nth (.int .i64) s (k+d)):=rfl;rw[e];omega
def SH{s:List Int}(hs:∀j,j<s.length->1<=(nth (.int .i64) s j:Int)/\(nth (.int .i64) s j:Int)<=40):∀(d k:Nat) {l:List (Int×Int×Unit)} {o:List Int},k+d=s.length->ve l (iZ s k)->iZ s k<=256->
  o.length=s.length->gR l (s.drop k) (o.take k)=some o->iZ s s.length<=256/\∀i,k<=i->i<s.length->(nth (.int .i64) o i:Int)=iZ s i:=by
 intro d;induction d with
 |zero=>
  intro k l o hk hc hle hl h;have e:k=s.length:=by omega
  subst e;exact⟨hle,fun i h1 h2=>by omega⟩
 |succ d ih=>
  intro k l o hk hc hle hl h;have h2:=hs k (by omega);have h3:=ly h2.1 h2.2;have hb:=hc.base (many:=cL (nth (.int .i64) s k)) (by omega) 40 0 (by have:=hc.1;omega) (by omega);simp only[Int.natCast_zero,Int.mul_zero]at hb;obtain⟨n1,n2,n3⟩:=HE (k:=k) (by omega) h hl;rw[hb]at n1 n2 n3;have e:iZ s (k+1)=iZ s k+cL (nth (.int .i64) s k):=rfl;obtain⟨r1,r2⟩:=ih (k+1) (by omega) (l:=l++[(iZ s k,cL (nth (.int .i64) s k),())]) (by rw[e];exact hc.snoc (by omega) (U5 h2.1)) (by omega) hl n3;refine⟨r1,fun i h4 h5 =>?_⟩;rcases bg k i with c|c
  ·exact r2 i (by omega) h5
  ·rw[show i=k by omega];exact n1
def PE{s:List Int}(h:(cM (s,[])).2.isNil=true):(cM (s,[])).1.length=s.length/\(∀j,j<s.length->1<=(nth (.int .i64) s j:Int)/\(nth (.int .i64) s j:Int)<=40)/\
  iZ s s.length<=256/\∀i,i<s.length->(nth (.int .i64) (cM (s,[])).1 i:Int)=iZ s i:=by
 obtain⟨_,_,h3,_,h5,h6⟩:=MS h;obtain⟨r1,r2⟩:=SH h3 s.length 0 (l:=[]) (o:=(cM (s,[])).1) (by omega) ve.nil (by simp[iZ]) h6 (by rw[ef,fk];exact h5);exact⟨h6,h3,r1,fun i hi=>r2 i (ar _) hi⟩
def bZ(l:List (D aB)):List Int:=l.map fun o=>(o.2.1.length:Int)
def cZ(l:List (D aB)):Ws:=l.map fun o=>o.2.1
def pC(l:List (D aB)):(bZ l).length=l.length:=by simp[bZ]
def nJ(l:List (D aB)):(cZ l).length=l.length:=by simp[cZ]
def rq{t u:Ty}{f:D u->D t}{l:List (D u)}{i:Nat}(h:i<l.length):nth t (l.map f) i=f (nth u l i):=by
 unfold nth;rw[List.getD_eq_getElem?_getD,List.getD_eq_getElem?_getD,List.getElem?_map,List.getElem?_eq_getElem h];rfl
def Ce{l:List (D aB)}{i:Nat}(h:i<l.length):(nth (.int .i64) (bZ l) i:Int)=((nth aB l i).2.1.length:Int):=rq (u:=aB) (t:=.int .i64) h
def vf{l:List (D aB)}{i:Nat}(h:i<l.length):nth jh (cZ l) i=(nth aB l i).2.1:=rq (u:=aB) (t:=jh) h
def zG{l:List (D aB)}{i:Nat}(h:i<l.length):bZ (l.take (i+1))=bZ (l.take i)++[((nth aB l i).2.1.length:Int)]:=by
 unfold bZ;rw[lK (t:=aB) h];simp
def zH{l:List (D aB)}{i:Nat}(h:i<l.length):cZ (l.take (i+1))=cZ (l.take i)++[(nth aB l i).2.1]:=by
 unfold cZ;rw[lK (t:=aB) h];simp
def AQ(l:List (D aB))(b:List Int)(i:Nat)(ts:List (D bC)):List Pt:=ts.map fun t=>((i:Int),t.1,(gS l b i t).1,())
def qS(l:List (D aB))(b:List Int):List (D aB)->Nat->List Pt
 |[],_=>[]
 |o :: r,i=>AQ l b i o.2.2.2.1++qS l b r (i+1)
def Lb{l:List (D aB)}{b:List Int}{i:Nat}:∀{ts:List (D bC)} {out:List Pt},(n8 l b i ts out).2.isNil=true->n8 l b i ts out=(out++AQ l b i ts,.nil)/\∀t∈ts,(gS l b i t).2.isNil=true
 |[],out,_=>⟨by simp[n8,AQ],by simp⟩
 |t :: r,out,h=>by
  rw[n8]at h ⊢;by_cases c:(gS l b i t).2.isNil=true
  ·rw[if_pos c]at h ⊢
   obtain⟨h1,h2⟩:=Lb h;refine⟨by rw[h1];simp[AQ],fun u hu =>?_⟩;rcases ag.1 hu with rfl|hu
   ·exact c
   ·exact h2 u hu
  ·rw[if_neg c]at h;exact absurd h c
def Lc{l:List (D aB)}{b:List Int}:∀{os:List (D aB)} {i:Nat} {out:List Pt},(nO l b os i out).2.isNil=true->nO l b os i out=(out++qS l b os i,.nil)/\
  ∀k,k<os.length->∀t∈(nth aB os k).2.2.2.1,(gS l b ((i+k:Nat):Int) t).2.isNil=true
 |[],i,out,_=>⟨by simp[nO,qS],fun k hk=>by simp at hk⟩
 |o :: r,i,out,h=>by
  rw[nO]at h ⊢;unfold ox at h ⊢;by_cases c:(n8 l b i o.2.2.2.1 out).2.isNil=true
  ·rw[if_pos c]at h ⊢
   obtain⟨h1,h2⟩:=Lb c;obtain⟨h3,h4⟩:=Lc h;refine⟨by rw[h3,h1];simp[qS],fun k hk =>?_⟩;rcases k with _|k
   ·exact h2
   ·have:=h4 k (by simpa using hk)
    rw[show i+1+k=i+(k+1) by omega]at this;exact this
  ·rw[if_neg c]at h;exact absurd h c
def SI{l:List (D aB)}{b:List Int}(h:(iC (l,b)).2.isNil=true):b.length=l.length/\pG b/\(iC (l,b)).1=qS l b l 0/\∀k,k<l.length->∀t∈(nth aB l k).2.2.2.1,(gS l b (k:Int) t).2.isNil=true:=by
 have h':=h;unfold iC at h ⊢;split at h
 ·cases h
 ·rename_i hl
  split at h
  ·rename_i hb
   obtain⟨h1,h2⟩:=Lc h;refine⟨aq hl,hb,?_,fun k hk t ht=>by have:=h2 k hk t ht;rwa [dh]at this⟩;rw[if_neg hl,if_pos hb,h1];rfl
  ·cases h
def AR{l:List (D aB)}{b:List Int}:∀{os:List (D aB)} {i:Nat} {p:Pt},p∈qS l b os i->∃k t,k<os.length/\t∈(nth aB os k).2.2.2.1/\p=(((i+k:Nat):Int),t.1,(gS l b ((i+k:Nat):Int) t).1,())
 |[],i,p,h=>by simp[qS]at h
 |o :: r,i,p,h=>by
  rcases au.1 h with h|h
  ·obtain⟨t,ht,rfl⟩:=bf.1 h
   exact⟨0,t,by simp,ht,rfl⟩
  ·obtain⟨k,t,hk,ht,rfl⟩:=AR h
   exact⟨k+1,t,by simp;omega,ht,by rw[show i+1+k=i+(k+1) by omega]⟩
def Cf(x:List Int×List (D aZ)):Told (cM x).2:=by
 unfold cM;split
 ·rfl
 ·split
  ·rfl
  ·split <;> rfl
def SJ(x:Ws×List Pt):Told (iW x).2:=by
 unfold iW;split <;> rfl
def q9{e:aL}(h:Told e):aI (iA e)=e:=by
 cases e with
 |nil=>rfl
 |no m=>
  have h':0<m:=by have:=h;simpa[Told,ym,iA]using this
  have h2:¬m=0:=by omega
  show aI m=_;unfold aI;rw[if_neg h2]
 |other=>unfold Told at h;simp[ym]at h
def HF{e:aL}(h:Told e)(hn:e.isNil=false):0<iA e:=by
 cases e with
 |nil=>cases hn
 |no m=>
  have h':0<m:=by have:=h;simpa[Told,ym,iA]using this
  exact h'
 |other=>unfold Told at h;simp[ym]at h
abbrev Rk:=List aD×List (D aB)×List Int×List Pt×Int
def aY(rd:Rd)(root:aD):Rk:=
 if ¬(bF rd root).2.2=0 then([],[],[],[],(bF rd root).2.2)
 else if(cM (bZ (bF rd root).2.1,[])).2.isNil=false then([],[],[],[],iA (cM (bZ (bF rd root).2.1,[])).2)
 else if(iC ((bF rd root).2.1,(cM (bZ (bF rd root).2.1,[])).1)).2.isNil=false then([],[],[],[],iA (iC ((bF rd root).2.1,(cM (bZ (bF rd root).2.1,[])).1)).2)
 else((bF rd root).1,(bF rd root).2.1,(cM (bZ (bF rd root).2.1,[])).1,(iC ((bF rd root).2.1,(cM (bZ (bF rd root).2.1,[])).1)).1,0)
def xx{rd:Rd}{root:aD}(h:¬(bF rd root).2.2=0):aY rd root=([],[],[],[],(bF rd root).2.2):=by unfold aY;rw[if_pos h]
def xy{rd:Rd}{root:aD}(h:(bF rd root).2.2=0)(h1:(cM (bZ (bF rd root).2.1,[])).2.isNil=false):aY rd root=([],[],[],[],iA (cM (bZ (bF rd root).2.1,[])).2):=by
 unfold aY;rw[if_neg (not_not_intro h),if_pos h1]
def Cg{rd:Rd}{root:aD}(h:(bF rd root).2.2=0)(h1:(cM (bZ (bF rd root).2.1,[])).2.isNil=true)(h2:(iC ((bF rd root).2.1,(cM (bZ (bF rd root).2.1,[])).1)).2.isNil=false) :
  aY rd root=([],[],[],[],iA (iC ((bF rd root).2.1,(cM (bZ (bF rd root).2.1,[])).1)).2):=by
 unfold aY;rw[if_neg (not_not_intro h),if_neg (by rw[h1];decide),if_pos h2]
def zI{rd:Rd}{root:aD}(h:(bF rd root).2.2=0)(h1:(cM (bZ (bF rd root).2.1,[])).2.isNil=true)(h2:(iC ((bF rd root).2.1,(cM (bZ (bF rd root).2.1,[])).1)).2.isNil=true) :
  aY rd root=((bF rd root).1,(bF rd root).2.1,(cM (bZ (bF rd root).2.1,[])).1,(iC ((bF rd root).2.1,(cM (bZ (bF rd root).2.1,[])).1)).1,0):=by
 unfold aY;rw[if_neg (not_not_intro h),if_neg (by rw[h1];decide),if_neg (by rw[h2];decide)]
structure ki (rd:Rd) (root:aD) (ns:List aD) (os:List (D aB)) (bs:List Int) (ps:List Pt):Prop where
 e:bF rd root=(ns,os,0)
 sc:Scope rd root ns os
 eb:cM (bZ os,[])=(bs,.nil)
 ea:iC (os,bs)=(ps,.nil)
 bl:bs.length=os.length
 bi:pG bs
 pt:ps=qS os bs os 0
 one:∀k,k<os.length->∀t∈(nth aB os k).2.2.2.1,(gS os bs (k:Int) t).2.isNil=true
 Xe:∀i,i<ps.length->tU (cZ os) (nth aR ps i)
def EJ{e:aL}(h:e.isNil=true):e=.nil:=by cases e <;> first|rfl|cases h
def Scope.obj{rd:Rd}{root:aD}{ns:List aD}{os:List (D aB)}(ok:iI rd)(h:Scope rd root ns os){i:Nat}(hi:i<os.length):kZ (nth aB os i):=by
 have:=h.xv i (by rw[<-h.len];exact hi);rw[this.2];exact AO ok this.1
def kZ.SK{o:D aB}(h:kZ o):Un o:=by
 refine⟨by have:=h.t6;omega,fun i hi =>?_,fun i hi =>?_⟩
 ·have:=(h.sym hi).2;unfold ij at this;unfold Small;omega
 ·have:=h.tie hi
  have a:=this.a;have w:=this.w;unfold ij at a w;unfold Small Word;omega
def Scope.SK{rd:Rd}{root:aD}{ns:List aD}{os:List (D aB)}(ok:iI rd)(h:Scope rd root ns os):jP os:=⟨by have:=h.le;have:=h.len;omega,fun _ hi=>(h.obj ok hi).SK⟩
def PF{a n:Int}(h:a<=n-1):a<n:=by omega
def J0{o:D aB}(h:cY o=0):ic o.2.1.length [] o.2.2.1=0/\kR o.2.1.length none o.2.2.2.1=0:=by
 unfold cY at h;split at h
 ·cases h
 ·split at h
  ·rename_i h1;exact absurd h h1
  ·split at h
   ·rename_i h2;exact absurd h h2
   ·split at h
    ·rename_i h3;exact absurd h h3
    ·rename_i h3;exact⟨aq h3,h⟩
def MU{o:D aB}(h:cY o=0){t:D bC}(ht:t∈o.2.2.2.1):0<=t.1/\t.1<(o.2.1.length:Int):=by
 obtain⟨p,hp⟩:=u6 _ _ _ (J0 h).2 t ht;obtain⟨⟨a,b⟩,_⟩:=EB hp;exact⟨a,PF b⟩
def Scope.fault{rd:Rd}{root:aD}{ns:List aD}{os:List (D aB)}(ok:iI rd)(h:Scope rd root ns os){i:Nat}(hi:i<os.length):cY (nth aB os i)=0:=by
 have:=h.xv i (by rw[<-h.len];exact hi);rw[this.2];exact u9 (kg ok this.1).2
def rZ{rd:Rd}(ok:iI rd)(root:aD):(∃f,0<f/\aY rd root=([],[],[],[],f))\/(∃ns os bs ps,aY rd root=(ns,os,bs,ps,0)/\ki rd root ns os bs ps):=by
 rcases zF ok root with⟨f,hf,e⟩|⟨ns,os,e,sc⟩
 ·exact .inl ⟨f,hf,by rw[xx (by rw[e];simp only;omega),e]⟩
 ·have e0:(bF rd root).2.2=0:=by rw[e]
  have e1:(bF rd root).2.1=os:=by rw[e]
  have e2:(bF rd root).1=ns:=by rw[e]
  cases hb:(cM (bZ os,[])).2.isNil with
  |false=>exact .inl ⟨_,HF (Cf _) hb,by rw[xy e0 (by rw[e1];exact hb),e1]⟩
  |true=>
   cases ha:(iC (os,(cM (bZ os,[])).1)).2.isNil with
   |false=>exact .inl ⟨_,HF (He _) ha,by rw[Cg e0 (by rw[e1];exact hb) (by rw[e1];exact ha),e1]⟩
   |true=>
    obtain⟨a1,a2,a3,a4⟩:=SI ha;refine .inr ⟨ns,os,_,_,by rw[zI e0 (by rw[e1];exact hb) (by rw[e1];exact ha),e1,e2],e,sc,Prod.ext rfl (EJ hb),Prod.ext rfl (EJ ha),a1,a2,a3,a4,fun i hi =>?_⟩;obtain⟨k,t,hk,ht,hp⟩:=AR (by rw[<-a3];exact dQ (t:=aR) hi);rw[hp];have:=MU (sc.fault ok hk) ht;refine⟨by simp only;omega,by simp only;rw[nJ];omega,this.1,?_⟩;simp only[dh];rw[show((k:Int)).toNat=k from rfl,vf hk];exact this.2
def jc(ns:List aD)(bs:List Int)(w:Ws)(n:Nat):List (D jq):=(ba n).map fun i=>(nth .str ns i,nth (.int .i64) bs i,nth jh w i,())
def MV(ns:List aD)(bs:List Int)(w:Ws)(n:Nat):(jc ns bs w n).length=n:=by simp[jc]
def zJ(ns:List aD)(bs:List Int)(w:Ws)(n:Nat):jc ns bs w (n+1)=jc ns bs w n++[(nth .str ns n,nth (.int .i64) bs n,nth jh w n,())]:=by simp[jc,cq]
def jO(ns:List aD)(bs:List Int)(os:List (D aB))(ps:List Pt):List (D jq)×aL:=
 if ¬ns.length=os.length\/¬bs.length=os.length then([],.no 3)
 else if(iW (cZ os,ps)).2.isNil=false then([],(iW (cZ os,ps)).2)
 else(jc ns bs (iW (cZ os,ps)).1 os.length,.nil)
def Ch{ns:List aD}{bs:List Int}{os:List (D aB)}{ps:List Pt}(h:¬ns.length=os.length\/¬bs.length=os.length):jO ns bs os ps=([],.no 3):=by unfold jO;rw[if_pos h]
def SL{ns:List aD}{bs:List Int}{os:List (D aB)}{ps:List Pt}(h:ns.length=os.length)(h':bs.length=os.length)(hp:(iW (cZ os,ps)).2.isNil=false):jO ns bs os ps=([],(iW (cZ os,ps)).2):=by
 unfold jO;rw[if_neg (by rintro(e|e);exact e h;exact e h'),if_pos hp]
def Dn{ns:List aD}{bs:List Int}{os:List (D aB)}{ps:List Pt}(h:ns.length=os.length)(h':bs.length=os.length)(hp:(iW (cZ os,ps)).2.isNil=true):jO ns bs os ps=(jc ns bs (iW (cZ os,ps)).1 os.length,.nil):=by
 unfold jO;rw[if_neg (by rintro(e|e);exact e h;exact e h'),if_neg (by rw[hp];decide)]
def HG(ns:List aD)(bs:List Int)(os:List (D aB))(ps:List Pt):Told (jO ns bs os ps).2:=by
 unfold jO;split
 ·rfl
 ·split
  ·exact SJ _
  ·rfl
def hU(rd:Rd)(root:aD):List (D jq)×Int:=
 if ¬(aY rd root).2.2.2.2=0 then([],(aY rd root).2.2.2.2)
 else((jO (aY rd root).1 (aY rd root).2.2.1 (aY rd root).2.1 (aY rd root).2.2.2.1).1,iA (jO (aY rd root).1 (aY rd root).2.2.1 (aY rd root).2.1 (aY rd root).2.2.2.1).2)
def ki.put{rd:Rd}{root:aD}{ns:List aD}{os:List (D aB)}{bs:List Int}{ps:List Pt}(h:ki rd root ns os bs ps):iW (cZ os,ps)=(lz (cZ os) ps,.nil):=yp h.Xe
def ki.lay{rd:Rd}{root:aD}{ns:List aD}{os:List (D aB)}{bs:List Int}{ps:List Pt}(h:ki rd root ns os bs ps):jO ns bs os ps=(jc ns bs (lz (cZ os) ps) os.length,.nil):=by
 rw[Dn h.sc.len.symm h.bl (by rw[h.put];rfl),h.put]
def SM{rd:Rd}{root:aD}(h:¬(aY rd root).2.2.2.2=0):hU rd root=([],(aY rd root).2.2.2.2):=by unfold hU;rw[if_pos h]
def U6{rd:Rd}{root:aD}{ns:List aD}{os:List (D aB)}{bs:List Int}{ps:List Pt}(e:aY rd root=(ns,os,bs,ps,0))(h:ki rd root ns os bs ps):hU rd root=(jc ns bs (lz (cZ os) ps) os.length,0):=by
 unfold hU;rw[e,if_neg (by simp),h.lay];rfl
def ki.sum{rd:Rd}{root:aD}{ns:List aD}{os:List (D aB)}{bs:List Int}{ps:List Pt}(h:ki rd root ns os bs ps) :
  (∀j,j<os.length->1<=(nth aB os j).2.1.length/\(nth aB os j).2.1.length<=40)/\iZ (bZ os) os.length<=256/\∀i,i<os.length->(nth (.int .i64) bs i:Int)=iZ (bZ os) i:=by
 have hb:(cM (bZ os,[])).2.isNil=true:=by rw[h.eb];rfl
 have hn:(cM (bZ os,[])).1=bs:=by rw[h.eb]
 obtain⟨_,h2,h3,h4⟩:=PE hb;rw[hn]at h4;have hl:=pC os;refine⟨fun j hj =>?_,by rw[hl]at h3;exact h3,fun i hi=>h4 i (by omega)⟩;have:=h2 j (by omega);rw[Ce hj]at this;exact⟨dc.1 this.1,dc.1 this.2⟩
def Xq(p:D jq)(a:Int):Prop:=(p.2.1:Int)<=a/\a<(p.2.1:Int)+(p.2.2.1.length:Int)
instance(p:D jq)(a:Int):Decidable (Xq p a):=inferInstanceAs (Decidable (_/\_))
def PG{rd:Rd}(ok:iI rd){root:aD}(h:(bF rd root).2.2=0):(bF rd root).2.1.length<=6:=by
 have:=(AP ok h).le;have:=(AP ok h).len;omega
def MW{rd:Rd}(ok:iI rd){root:aD}(h:(bF rd root).2.2=0):jP (bF rd root).2.1:=(AP ok h).SK ok
def U7{l:List (D aB)}(h:l.length<=1000/\∀i,i<l.length->(nth aB l i).2.1.length<=1000) :
  (cZ l).length<=100000/\∀i,i<(cZ l).length->(nth jh (cZ l) i).length<=100000000:=by
 refine⟨by rw[nJ];omega,fun i hi =>?_⟩;rw[nJ]at hi;rw[vf hi];have:=h.2 i hi;omega
def MX{rd:Rd}(ok:iI rd){root:aD}{ns:List aD}{os:List (D aB)}(h:Scope rd root ns os):os.length<=1000/\∀i,i<os.length->(nth aB os i).2.1.length<=1000:=by
 refine⟨by have:=h.le;have:=h.len;omega,fun i hi =>?_⟩;exact b5 (h.obj ok hi).Up (by decide)
def HH{rd:Rd}(ok:iI rd){root:aD}(h:(aY rd root).2.2.2.2=0) :
  (aY rd root).2.1.length<=1000/\∀i,i<(aY rd root).2.1.length->(nth aB (aY rd root).2.1 i).2.1.length<=1000:=by
 rcases rZ ok root with⟨f,hf,e⟩|⟨ns,os,bs,ps,e,hr⟩
 ·rw[e]at h;simp at h;omega
 ·rw[e];exact MX ok hr.sc
def SN{rd:Rd}{root:aD}(h:(aY rd root).2.2.2.2=0) :
  ((jO (aY rd root).1 (aY rd root).2.2.1 (aY rd root).2.1 (aY rd root).2.2.2.1).1,(jO (aY rd root).1 (aY rd root).2.2.1 (aY rd root).2.1 (aY rd root).2.2.2.1).2,())=
   ((hU rd root).1,aI (hU rd root).2,()):=by
 unfold hU;rw[if_neg (not_not_intro h)];simp only[q9 (HG _ _ _ _)]
def dK{f:Int}(h:(aI f).isNil=false):¬f=0:=fun e=>by rw[aP.2 e]at h;cases h
def SO(x:List (D aB)×List Int):aI (iA (iC x).2)=(iC x).2:=q9 (He x)
def HI{α:Type}{l:List α}{i:Nat}(h:¬i<l.length):l.take i=l:=cg (by omega)
abbrev Uq:=Unit×List (List UInt8)×List Int×List (D aS)×List (D bC)×(Bool×Unit)×Unit
def SP(x:Uq):D aB:=(x.2.1,x.2.2.1,x.2.2.2.1,x.2.2.2.2.1,())
def PH(p:D aB×Bool):Uq:=((),p.1.1,p.1.2.1,p.1.2.2.1,p.1.2.2.2.1,(p.2,()),())
def HJ(s p:aD):(ax s p).length<=s.length:=by unfold ax;split <;> simp
def Ld{s:aD}{w:List aD}(hw:w=parts 32 (ax s dW))(i:Nat):(nth .str w i).length<=s.length:=by
 by_cases h:i<w.length
 ·have h1:=dQ (t:=.str) h
  rw[hw]at h1;have:=oI _ _ _ h1;rw[<-hw]at this;exact b5 this (HJ _ _)
 ·unfold nth;rw[List.getD_eq_getElem?_getD,List.getElem?_eq_none (by omega)];exact ar _
def SQ{s:aD}{w:List aD}(hw:w=parts 32 (ax s dW)):0<w.length:=by rw[hw];exact List.length_pos_iff.2 (AG _ _)
def l7{c:Bool}{P:Prop}(q:c=true↔P)(h:c=false):¬P:=fun p=>by rw[q.2 p]at h;cases h
section
variable{o:D aB}{b:Bool}{s:aD}{w:List aD}(hw:w=parts 32 (ax s dW))
include hw
def MY(h:nth .str w 0=kv/\w.length=2):gF o b s=(pW o (nth .str w 1),b):=by
 unfold gF;simp only;rw[<-hw,if_pos h]
def MZ(h0:¬(nth .str w 0=kv/\w.length=2))(h:nth .str w 0=jW/\w.length=2):gF o b s=(pX o (dZ (nth .str w 1)).1,b || (cS (nth .str w 1)).isNone):=by
 unfold gF;simp only;rw[<-hw,if_neg h0,if_pos h]
def PI(h0:¬(nth .str w 0=kv/\w.length=2))(h1:¬(nth .str w 0=jW/\w.length=2))(h:nth .str w 0=ji/\w.length=3) :
  gF o b s=(tZ o (nth .str w 1,(dZ (nth .str w 2)).1,av s dW,()),b || (cS (nth .str w 2)).isNone):=by
 unfold gF;simp only;rw[<-hw,if_neg h0,if_neg h1,if_pos h]
def M0(h0:¬(nth .str w 0=kv/\w.length=2))(h1:¬(nth .str w 0=jW/\w.length=2))(h2:¬(nth .str w 0=ji/\w.length=3))(h:nth .str w 0=mK/\w.length=3) :
  gF o b s=(py o ((dZ (nth .str w 1)).1,1,(dZ (nth .str w 2)).1,[],false,()),(b || (cS (nth .str w 1)).isNone) || (cS (nth .str w 2)).isNone):=by
 unfold gF;simp only;rw[<-hw,if_neg h0,if_neg h1,if_neg h2,if_pos h]
def EK(h0:¬(nth .str w 0=kv/\w.length=2))(h1:¬(nth .str w 0=jW/\w.length=2))(h2:¬(nth .str w 0=ji/\w.length=3))(h3:¬(nth .str w 0=mK/\w.length=3))
  (h:(nth .str w 0=lE\/nth .str w 0=lh)/\w.length=4){k:Int}(hk:k=if nth .str w 0=lh then 3 else 2) :
  gF o b s=(py o ((dZ (nth .str w 1)).1,k,(dZ (nth .str w 2)).1,nth .str w 3,av s dW,()),(b || (cS (nth .str w 1)).isNone) || (cS (nth .str w 2)).isNone):=by
 unfold gF;simp only;rw[<-hw,if_neg h0,if_neg h1,if_neg h2,if_neg h3,if_pos h,hk]
def M1(h0:¬(nth .str w 0=kv/\w.length=2))(h1:¬(nth .str w 0=jW/\w.length=2))(h2:¬(nth .str w 0=ji/\w.length=3))(h3:¬(nth .str w 0=mK/\w.length=3))
  (h:¬((nth .str w 0=lE\/nth .str w 0=lh)/\w.length=4)):gF o b s=(o,true):=by
 unfold gF;simp only;rw[<-hw,if_neg h0,if_neg h1,if_neg h2,if_neg h3,if_neg h]
end
def od(s:aD):D aB×aL:=((cU s).1,aI (cU s).2)
def M3{s:aD}(h:s.length > 1200):(bW aB,aL.no 2)=od s:=by unfold od;rw[EH h];rfl
def lF.run{L:List aD}{i:Nat}{o:D aB}{b:Bool}(h:lF L i o b)(hi:¬i<L.length):(run pz (bW aB) L=some o/\b=false)\/(run pz (bW aB) L=none/\b=true):=by
 have:=h.st
 rwa [cg (by omega)]at this
def xz{s:aD}{i:Nat}{o:D aB}{b:Bool}(h:lF (parts 10 (ae s [10])) i o b)(hi:¬i<(parts 10 (ae s [10])).length)(hl:¬s.length > 1200)
  (hb:b=true\/(ku o).2.isNil=false\/¬(ku o).1=s):(bW aB,aL.no 4)=od s:=by
 have:cU s=(bW aB,4):=by
  rcases h.run hi with⟨hr,h0⟩|⟨hr,h0⟩
  ·rcases hb with hb|hb|hb
   ·rw[hb]at h0;cases h0
   ·refine Ca hl hr fun hf ht =>?_
    rw[u7 hf rfl (by show(iH o).length<=1200;rw[ht];omega)]at hb;cases hb
   ·refine Ca hl hr fun hf ht=>hb ?_
    rw[u7 hf rfl (by show(iH o).length<=1200;rw[ht];omega)];exact ht
  ·exact MQ hl hr
 unfold od;rw[this];rfl
def SR{s:aD}{o:D aB}(hl:¬s.length > 1200)
  (hn:(ku o).2.isNil=true)(ht:(ku o).1=s):(o,aL.nil)=od s:=by
 have hf:cY o=0:=by
  apply aq;intro hf;rw[EE hf]at hn;exact hf (aP.1 hn)
 have hs:iH o=s:=by
  by_cases h:(iH o).length > 1200
  ·rw[B8 hf rfl h]at hn;cases hn
  ·rw[u7 hf rfl (by show(iH o).length<=1200;omega)]at ht;exact ht
 unfold od;rw[Dl hl hf hs];rfl
def yw(s p:aD):(ae s p).length<=s.length:=by unfold ae;split <;> simp
def PJ(s:aD)(h:s.length<=1200):(parts 10 (ae s [10])).length<=1201:=by
 have h1:=sK 10 (ae s [10]);have h2:(ae s [10]).length<=s.length:=by unfold ae;split <;> simp
 omega
def M4{s:aD}(h:s.length<=1200)(i:Nat):(nth .str (parts 10 (ae s [10])) i).length<=1200:=by
 by_cases hi:i<(parts 10 (ae s [10])).length
 ·have:=oI _ _ _ (dQ (t:=.str) hi)
  have h2:(ae s [10]).length<=s.length:=by unfold ae;split <;> simp
  omega
 ·unfold nth;rw[List.getD_eq_getElem?_getD,List.getElem?_eq_none (by omega)];exact ar _
section
variable{o:D aB}{b:Bool}{w:List aD}{k:Nat}
end
def eT{k n:Nat}(h:(k:Int)<(n:Int)):(decide ((k:Int)<3))=true↔((k:Int)<(n:Int)/\(k:Int)<3):=by
 rw[decide_eq_true_eq];omega
def cB(rd:Rd)(ns:List aD)(bs:List Int)(n:Nat):List (D aG):=(ba n).map fun i=>(nth .str ns i,(rd (nth .str ns i)).2.1,nth (.int .i64) bs i,())
def eX(rd:Rd)(ns:List aD)(bs:List Int)(n:Nat):(cB rd ns bs n).length=n:=by simp[cB]
def xA(rd:Rd)(ns:List aD)(bs:List Int)(n:Nat):cB rd ns bs (n+1)=cB rd ns bs n++[(nth .str ns n,(rd (nth .str ns n)).2.1,nth (.int .i64) bs n,())]:=by simp[cB,cq]
def ju{rd:Rd}{ns:List aD}{bs:List Int}{n i:Nat}(h:i<n):nth aG (cB rd ns bs n) i=(nth .str ns i,(rd (nth .str ns i)).2.1,nth (.int .i64) bs i,()):=by
 apply ja;simp[cB,h]
def dR(rd:Rd)(root:aD):D aC×Int:=
 if ¬(aY rd root).2.2.2.2=0 then(bW aC,(aY rd root).2.2.2.2)
 else((root,cB rd (aY rd root).1 (aY rd root).2.2.1 (aY rd root).1.length,(aY rd root).2.2.2.1,()),0)
def HK{rd:Rd}{root:aD}(h:¬(aY rd root).2.2.2.2=0):dR rd root=(bW aC,(aY rd root).2.2.2.2):=by unfold dR;rw[if_pos h]
def yx{rd:Rd}{root:aD}(h:(aY rd root).2.2.2.2=0):dR rd root=((root,cB rd (aY rd root).1 (aY rd root).2.2.1 (aY rd root).1.length,(aY rd root).2.2.2.1,()),0):=by
 unfold dR;rw[if_neg (not_not_intro h)]
def M5{rd:Rd}(ok:iI rd)(root:aD):(∃f,0<f/\aY rd root=([],[],[],[],f)/\dR rd root=(bW aC,f))\/
  (∃ns os bs ps,aY rd root=(ns,os,bs,ps,0)/\ki rd root ns os bs ps/\dR rd root=((root,cB rd ns bs ns.length,ps,()),0)):=by
 rcases rZ ok root with⟨f,hf,e⟩|⟨ns,os,bs,ps,e,h⟩
 ·exact .inl ⟨f,hf,e,by rw[HK (by rw[e];simp only;omega),e]⟩
 ·exact .inr ⟨ns,os,bs,ps,e,h,by rw[yx (by rw[e]),e]⟩
def jd(rd:Rd)(p:D aG):Bool:=decide ((rd p.1).2.2=0)&&decide ((rd p.1).2.1=p.2.1)
def fL(rd:Rd)(e:D aC):Bool:=e.2.1.all (jd rd)&&decide (0<e.2.1.length)
def HM{rd:Rd}{e:D aC}{i:Nat}(h:i<e.2.1.length)(hf:jd rd (nth aG e.2.1 i)=false):fL rd e=false:=by
 unfold fL;have:e.2.1.all (jd rd)=false:=c6.2 ⟨_,dQ (t:=aG) h,by rw[hf];decide⟩;rw[this];rfl
def EL{rd:Rd}{e:D aC}(h:∀i,i<e.2.1.length->jd rd (nth aG e.2.1 i)=true):fL rd e=decide (0<e.2.1.length):=by
 unfold fL;have:e.2.1.all (jd rd)=true:=ca.2 fun x hx=>by
  obtain⟨i,hi,rfl⟩:=fN (t:=aG) hx;exact h i hi
 rw[this];rfl
def EM{rd:Rd}{e:D aC}(h:fL rd e=true):0<e.2.1.length/\∀i,i<e.2.1.length->(rd (nth aG e.2.1 i).1).2.2=0/\(rd (nth aG e.2.1 i).1).2.1=(nth aG e.2.1 i).2.1:=by
 unfold fL at h;rw[af,ca,decide_eq_true_eq]at h;refine⟨h.2,fun i hi =>?_⟩;have:=h.1 _ (dQ (t:=aG) hi);unfold jd at this;rw[af,decide_eq_true_eq,decide_eq_true_eq]at this;exact this
def mL(rd:Rd):List (D aG)->Int
 |[]=>0
 |p :: r=>if(cU (rd p.1).1).2=0 then mL rd r else(cU (rd p.1).1).2
def fR(rd:Rd)(l:List (D aG)):List (D aB):=l.map fun p=>(cU (rd p.1).1).1
def fV(l:List (D aG)):List aD:=l.map fun p=>p.1
def fW(l:List (D aG)):List Int:=l.map fun p=>p.2.2.1
def HN{rd:Rd}:∀{l:List (D aG)} {i:Nat},(∀j,j<i->(cU (rd (nth aG l j).1).1).2=0)->i<l.length->¬(cU (rd (nth aG l i).1).1).2=0->mL rd l=(cU (rd (nth aG l i).1).1).2
 |[],i,_,h,_=>by simp at h
 |p :: r,0,_,_,h=>by unfold mL;rw[if_neg (show ¬(cU (rd p.1).1).2=0 from h)];rfl
 |p :: r,i+1,h,h1,h2=>by
  unfold mL;rw[if_pos (show(cU (rd p.1).1).2=0 from h 0 (by omega))];exact HN (l:=r) (i:=i) (fun j hj=>h (j+1) (by omega)) (by simpa using h1) h2
def vg{rd:Rd}:∀{l:List (D aG)},(∀j,j<l.length->(cU (rd (nth aG l j).1).1).2=0)->mL rd l=0
 |[],_=>rfl
 |p :: r,h=>by
  unfold mL;rw[if_pos (show(cU (rd p.1).1).2=0 from h 0 (by simp))];exact vg (l:=r) fun j hj=>h (j+1) (by simpa using hj)
def HO(rd:Rd):∀l:List (D aG),0<=mL rd l
 |[]=>az _
 |p :: r=>by
  unfold mL;split
  ·exact HO rd r
  ·exact zE _
def kB(rd:Rd)(e:D aC):List (D jq)×Int:=
 if fL rd e=false then([],10)
 else if ¬mL rd e.2.1=0 then([],mL rd e.2.1)
 else((jO (fV e.2.1) (fW e.2.1) (fR rd e.2.1) e.2.2.1).1,iA (jO (fV e.2.1) (fW e.2.1) (fR rd e.2.1) e.2.2.1).2)
def PK{rd:Rd}{e:D aC}(h:fL rd e=false):kB rd e=([],10):=by unfold kB;rw[if_pos h]
def U8{rd:Rd}{e:D aC}(h:fL rd e=true){f:Int}(hb:mL rd e.2.1=f)(h0:¬f=0):kB rd e=([],f):=by
 unfold kB;rw[if_neg (by rw[h];decide),if_pos (by rw[hb];exact h0),hb]
def PL{rd:Rd}{e:D aC}(h:fL rd e=true)(hb:mL rd e.2.1=0) :
  kB rd e=((jO (fV e.2.1) (fW e.2.1) (fR rd e.2.1) e.2.2.1).1,iA (jO (fV e.2.1) (fW e.2.1) (fR rd e.2.1) e.2.2.1).2):=by
 unfold kB;rw[if_neg (by rw[h];decide),if_neg (not_not_intro hb)]
def kj{t:Ty}{a b:List (D t)}(hl:a.length=b.length)(h:∀i,i<a.length->nth t a i=nth t b i):a=b:=JL (t:=t) hl h
def HP{rd:Rd}{ns:List aD}{bs:List Int}:fV (cB rd ns bs ns.length)=ns:=by
 refine kj (t:=.str) (by simp[fV,cB]) fun i hi =>?_
 have hi':i<ns.length:=by simpa[fV,cB]using hi
 unfold fV;rw[rq (u:=aG) (t:=.str) (by rw[eX];exact hi'),ju hi']
def HQ{rd:Rd}{ns:List aD}{bs:List Int}(h:bs.length=ns.length):fW (cB rd ns bs ns.length)=bs:=by
 refine kj (t:=.int .i64) (by simp[fW,cB,h]) fun i hi =>?_
 have hi':i<ns.length:=by simpa[fW,cB]using hi
 unfold fW;rw[rq (u:=aG) (t:=.int .i64) (by rw[eX];exact hi'),ju hi']
def ki.fresh{rd:Rd}(ok:iI rd){root:aD}{ns:List aD}{os:List (D aB)}{bs:List Int}{ps:List Pt}(h:ki rd root ns os bs ps):fL rd (root,cB rd ns bs ns.length,ps,())=true:=by
 rw[EL]
 ·exact decide_eq_true (by show 0<(cB rd ns bs ns.length).length;rw[eX];exact h.sc.pos)
 ·intro i hi
  have hi:i<ns.length:=by have:i<(cB rd ns bs ns.length).length:=hi;rwa [eX]at this
  show jd rd (nth aG (cB rd ns bs ns.length) i)=true;rw[ju hi];unfold jd;rw[decide_eq_true (kg ok (h.sc.xv i hi).1).1,decide_eq_true rfl];rfl
def ki.aF{rd:Rd}{root:aD}{ns:List aD}{os:List (D aB)}{bs:List Int}{ps:List Pt}(h:ki rd root ns os bs ps){rd':Rd}(hs:∀s∈ns,(rd' s).1=(rd s).1):fR rd' (cB rd ns bs ns.length)=os:=by
 refine kj (t:=aB) (by simp[fR,cB,h.sc.len]) fun i hi =>?_
 have hi':i<ns.length:=by simpa[fR,cB]using hi
 unfold fR;rw[rq (u:=aG) (t:=aB) (by rw[eX];exact hi'),ju hi',(h.sc.xv i hi').2];unfold jt;rw[hs _ (dQ (t:=.str) hi')]
def ki.bad{rd:Rd}(ok:iI rd){root:aD}{ns:List aD}{os:List (D aB)}{bs:List Int}{ps:List Pt}(h:ki rd root ns os bs ps){rd':Rd}(hs:∀s∈ns,(rd' s).1=(rd s).1):mL rd' (cB rd ns bs ns.length)=0:=by
 refine vg fun j hj =>?_
 rw[eX]at hj;rw[ju hj];simp only;rw[hs _ (dQ (t:=.str) hj)];exact(kg ok (h.sc.xv j hj).1).2
def ki.use{rd:Rd}(ok:iI rd){root:aD}{ns:List aD}{os:List (D aB)}{bs:List Int}{ps:List Pt}(h:ki rd root ns os bs ps){rd':Rd}(hs:∀s∈ns,(rd' s).1=(rd s).1)
  (hf:fL rd' (root,cB rd ns bs ns.length,ps,())=true):kB rd' (root,cB rd ns bs ns.length,ps,())=(jc ns bs (lz (cZ os) ps) os.length,0):=by
 rw[PL hf (h.bad ok hs)];simp only;rw[HP,HQ (by rw[h.bl,h.sc.len]),h.aF hs,h.lay];rfl
def eG(p:D aG):Int:=if aO p.1 > 0 then aO p.1 else if p.2.1<1\/p.2.1 > 1000000\/p.2.2.1<0\/p.2.2.1 > 255\/p.2.2.1 % 16 > 0 then 1 else 0
def mA:List (D aG)->Int
 |[]=>0
 |p :: r=>if eG p=0 then mA r else eG p
def eN(n:Nat)(p:Pt):Int:=if p.1<0\/p.1>=(n:Int)\/p.2.1<0\/p.2.1 > 39\/ib p.2.2.1=false then 1 else 0
def l8(n:Nat):List Pt->Int
 |[]=>0
 |p :: r=>if eN n p=0 then l8 n r else eN n p
def rb(e:D aC):Prop:=e.2.1.length<1\/e.2.1.length > 6\/e.2.2.1.length > 36
instance(e:D aC):Decidable (rb e):=by unfold rb;infer_instance
def bB(e:D aC):Int:=
 if aO e.1 > 0 then aO e.1 else if rb e then 2 else if ¬mA e.2.1=0 then mA e.2.1 else l8 e.2.1.length e.2.2.1
def FZ(p:D aG):0<=eG p:=by
 unfold eG;split
 ·omega
 ·split <;> decide
def F0(n:Nat)(p:Pt):0<=eN n p:=by unfold eN;split <;> decide
def ub:∀l:List (D aG),0<=mA l
 |[]=>az _
 |p :: r=>by
  unfold mA;split
  ·exact ub r
  ·exact FZ p
def sO(n:Nat):∀l:List Pt,0<=l8 n l
 |[]=>az _
 |p :: r=>by
  unfold l8;split
  ·exact sO n r
  ·exact F0 n p
def vQ(e:D aC):0<=bB e:=by
 unfold bB;split
 ·omega
 ·split
  ·decide
  ·split
   ·exact ub _
   ·exact sO _ _
def Ci:∀{l:List (D aG)} {i:Nat},(∀j,j<i->eG (nth aG l j)=0)->i<l.length->¬eG (nth aG l i)=0->mA l=eG (nth aG l i)
 |[],i,_,h,_=>by simp at h
 |p :: r,0,_,_,h=>by unfold mA;rw[if_neg (show ¬eG p=0 from h)];rfl
 |p :: r,i+1,h,h1,h2=>by
  unfold mA;rw[if_pos (show eG p=0 from h 0 (by omega))];exact Ci (l:=r) (i:=i) (fun j hj=>h (j+1) (by omega)) (by simpa using h1) h2
def r5:∀{l:List (D aG)},(∀j,j<l.length->eG (nth aG l j)=0)->mA l=0
 |[],_=>rfl
 |p :: r,h=>by
  unfold mA;rw[if_pos (show eG p=0 from h 0 (by simp))];exact r5 (l:=r) fun j hj=>h (j+1) (by simpa using hj)
def zK{n:Nat}:∀{l:List Pt} {i:Nat},(∀j,j<i->eN n (nth aR l j)=0)->i<l.length->¬eN n (nth aR l i)=0->l8 n l=eN n (nth aR l i)
 |[],i,_,h,_=>by simp at h
 |p :: r,0,_,_,h=>by unfold l8;rw[if_neg (show ¬eN n p=0 from h)];rfl
 |p :: r,i+1,h,h1,h2=>by
  unfold l8;rw[if_pos (show eN n p=0 from h 0 (by omega))];exact zK (l:=r) (i:=i) (fun j hj=>h (j+1) (by omega)) (by simpa using h1) h2
def vR{n:Nat}:∀{l:List Pt},(∀j,j<l.length->eN n (nth aR l j)=0)->l8 n l=0
 |[],_=>rfl
 |p :: r,h=>by
  unfold l8;rw[if_pos (show eN n p=0 from h 0 (by simp))];exact vR (l:=r) fun j hj=>h (j+1) (by simpa using hj)
def zL{e:D aC}(h:aO e.1 > 0):bB e=aO e.1:=by unfold bB;rw[if_pos h]
def qm{e:D aC}(h:aO e.1<=0)(h1:rb e):bB e=2:=by unfold bB;rw[if_neg (by omega),if_pos h1]
def jC{e:D aC}(h:aO e.1<=0)(h1:¬rb e){i:Nat}(hs:∀j,j<i->eG (nth aG e.2.1 j)=0)(hi:i<e.2.1.length){f:Int}(hf:eG (nth aG e.2.1 i)=f)(h0:f≠0):bB e=f:=by
 have:=Ci hs hi (by rw[hf];exact h0);unfold bB;rw[if_neg (by omega),if_neg h1,if_pos (by rw[this,hf];exact h0),this,hf]
def jD{e:D aC}(h:aO e.1<=0)(h1:¬rb e)(h2:∀j,j<e.2.1.length->eG (nth aG e.2.1 j)=0){i:Nat}(hs:∀j,j<i->eN e.2.1.length (nth aR e.2.2.1 j)=0)(hi:i<e.2.2.1.length)
  (hf:eN e.2.1.length (nth aR e.2.2.1 i)=1):bB e=1:=by
 unfold bB;rw[if_neg (by omega),if_neg h1,if_neg (not_not_intro (r5 h2)),zK hs hi (by rw[hf];decide),hf]
def EN{e:D aC}(h:aO e.1<=0)(h1:¬rb e)(h2:∀j,j<e.2.1.length->eG (nth aG e.2.1 j)=0)(h3:∀j,j<e.2.2.1.length->eN e.2.1.length (nth aR e.2.2.1 j)=0):bB e=0:=by
 unfold bB;rw[if_neg (by omega),if_neg h1,if_neg (not_not_intro (r5 h2)),vR h3]
section
variable{rd:Rd}{root:aD}{i:Nat}{ns:List aD}{os:List (D aB)}
def la.SS(ok:iI rd)(h:la rd root i ns os)(hi:i<ns.length)(he:¬(rd (nth .str ns i)).2.2=0) :
  bF rd root=([],[],(rd (nth .str ns i)).2.2):=by
 rw[h.bad hi (by rw[xr he];exact he),xr he]
def la.U9(h:la rd root i ns os)(hi:i<ns.length)(he:(rd (nth .str ns i)).2.2=0)(ho:¬(cU (rd (nth .str ns i)).1).2=0) :
  bF rd root=([],[],(cU (rd (nth .str ns i)).1).2):=by
 rw[h.bad hi (by rw[tp he];exact ho),tp he]
def Dp{s:aD}(he:(rd s).2.2=0)(ho:(cU (rd s).1).2=0):eL rd s=0:=by rw[tp he];exact ho
def la.Xk(h:la rd root i ns os):os.length+1<=1000000000:=by have:=h.len;have:=h.le;omega
def la.Wu(h:la rd root i ns os)(ok:iI rd){s:aD}(hf:eL rd s=0)(k:Nat):(gA ns (ah k (jt rd s).1)).length+1<=1000000000:=by
 obtain⟨r,h1,h2,_⟩:=oL (ah k (jt rd s).1) ns;have:=(AO ok hf).n4;have:=h.hi;have:=h.le;rw[h1,aw];rw[bh]at h2;omega
def Le{l:List aD}{k:Nat}(h:k<l.length)(hn:(gA ns (l.take k)).any (fun x=>x == nth .str l k)=false):gA ns (l.take k)++[nth .str l k]=gA ns (l.take (k+1)):=by
 rw[EI h,if_neg (by rw[hn];exact Bool.false_ne_true)]
def Lf{l:List aD}{k:Nat}(h:k<l.length)(hn:(gA ns (l.take k)).any (fun x=>x == nth .str l k)=true):gA ns (l.take k)=gA ns (l.take (k+1)):=by
 rw[EI h,if_pos hn]
def Lg{l:List aD}{k:Nat}(h:¬k<l.length):gA ns (l.take k)=gA ns l:=by rw[cg (by omega)]
end
def PM{rd:Rd}{root:aD}{ns:List aD}{os:List (D aB)}{bs:List Int}{ps:List Pt}{w:Ws}(h:bF rd root=(ns,os,0))(hb:cM (bZ os,[])=(bs,.nil))(ha:iC (os,bs)=(ps,.nil))
  (hn:ns.length=os.length)(hl:bs.length=os.length)(hp:∀i,i<ps.length->tU (cZ os) (nth aR ps i))(hw:lz (cZ os) ps=w):hU rd root=(jc ns bs w os.length,0):=by
 have e:aY rd root=(ns,os,bs,ps,0):=by
  unfold aY;rw[h];simp only[hb,ha,aL.isNil];rfl
 unfold hU;rw[e,if_neg (by simp)];have hq:iW (cZ os,ps)=(w,.nil):=by rw[yp hp,hw]
 simp only;rw[Dn hn hl (by rw[hq];rfl),hq];rfl
def AS:aD:=[119,111,114,100,32,53,10,98,97,115,101,32,48,32,51,10]
abbrev Wv:D aB:=([],[5],[],[(0,1,3,[],false,())],())
def WZ:cU AS=(Wv,0):=by
 have i5:ab 5=[53]:=by rw[AH (by decide) (by decide)];rfl
 have i0:ab 0=[48]:=by rw[AH (by decide) (by decide)];rfl
 have i3:ab 3=[51]:=by rw[AH (by decide) (by decide)];rfl
 refine Dl (by decide) (by decide) ?_;simp only[iH,jA,nR,nQ,px,u5,tn,iG,da,fl,fc,fk,bx,List.flatMap_nil,i5,i0,i3];decide
def PN{rd:Rd}{a t:aD}{n:Int}{o:D aB}(h:rd a=(t,n,0))(ho:cU t=(o,0))(hn:o.1=[]):bF rd a=([a],[o],0):=by
 have fa:eL rd a=0:=by unfold eL;rw[h];show(if(0:Int)=0 then(cU t).2 else 0)=0;rw[ho];rfl
 have oa:jt rd a=o:=by unfold jt;rw[h];show(cU t).1=o;rw[ho]
 have n0:nth .str [a] 0=a:=rfl;unfold bF;rw[jb,if_pos (by simp),n0,if_pos fa,oa,hn,HC,jb,if_neg (by simp)];rfl
def HR{rd rd':Rd}{root:aD}(h:bF rd' root=bF rd root):aY rd' root=aY rd root:=by unfold aY;rw[h]
def EO{s k:aD}(h:¬k=s):∀{es:List FE},cW cJ (fU cJ es s) k=cW cJ es k/\iU cJ (fU cJ es s) k=iU cJ es k
 |[]=>⟨rfl,rfl⟩
 |y :: es=>by
  obtain⟨h1,h2⟩:=EO h (es:=es);by_cases e:y.1=s
  ·have hk:¬y.1=k:=fun e'=>h (e'.symm.trans e)
   have hs:¬s=k:=fun e'=>h e'.symm
   have hd:fU cJ (y :: es) s=es:=if_pos e;rw[hd];constructor
   ·simp[cW,hk]
   ·show iU cJ es k=if y.1=k then y.2.1 else iU cJ es k;rw[if_neg hk]
  ·have hd:fU cJ (y :: es) s=y :: fU cJ es s:=if_neg e
   rw[hd];constructor
   ·simp only[cW]at h1 ⊢;simp[h1]
   ·show(if y.1=k then y.2.1 else iU cJ (fU cJ es s) k)=if y.1=k then y.2.1 else iU cJ es k;rw[h2]
def PO{x:cN}{s k:aD}(h:¬k=s):aK (fF x s).1 k=aK x k:=by
 cases hh:cW cJ x.2.1.1 s with
 |false=>rw[mz hh]
 |true=>
  rw[lD hh];unfold aK;obtain⟨h1,h2⟩:=EO h (es:=x.2.1.1);simp only[h1,h2]
def dD.ok{x:cN}(h:dD x):iI (aK x):=jB h.pre.1
def EP{rd:Rd}(ok:iI rd){s:aD}(h:(aY rd s).2.2.2.2=0):ki rd s (aY rd s).1 (aY rd s).2.1 (aY rd s).2.2.1 (aY rd s).2.2.2.1:=by
 rcases rZ ok s with⟨f,hf,e⟩|⟨ns,os,bs,ps,e,hr⟩
 ·rw[e]at h;exact absurd (show f=0 from h) (by omega)
 ·rw[e];exact hr
def ER{rd:Rd}(ok:iI rd){s:aD}(h:(aY rd s).2.2.2.2=0){i:Nat}(hi:i<(aY rd s).1.length):(rd (nth .str (aY rd s).1 i)).2.2=0:=
 (kg ok ((EP ok h).sc.xv i hi).1).1
def ES{rd:Rd}(ok:iI rd){s:aD}(h:(aY rd s).2.2.2.2=0):(aY rd s).2.2.1.length=(aY rd s).1.length/\(aY rd s).1.length<=6:=by
 have hr:=EP ok h;exact⟨by rw[hr.bl,hr.sc.len],hr.sc.le⟩
def zM{l:List (D aG)}{i:Nat}(h:i<l.length):fV (l.take i)++[(nth aG l i).1]=fV (l.take (i+1)):=by rw[lK (t:=aG) h];simp[fV]
def zN{l:List (D aG)}{i:Nat}(h:i<l.length):fW (l.take i)++[(nth aG l i).2.2.1]=fW (l.take (i+1)):=by rw[lK (t:=aG) h];simp[fW]
def Cj{rd:Rd}{l:List (D aG)}{i:Nat}(h:i<l.length):fR rd (l.take i)++[(cU (rd (nth aG l i).1).1).1]=fR rd (l.take (i+1)):=by rw[lK (t:=aG) h];simp[fR]
def PQ{rd:Rd}{l:List (D aG)}(hl:l.length<=1000)(h:∀j,j<l.length->(cU (rd (nth aG l j).1).1).2=0) :
  (fR rd l).length<=1000/\∀i,i<(fR rd l).length->(nth aB (fR rd l) i).2.1.length<=1000:=by
 have e:(fR rd l).length=l.length:=by simp[fR]
 refine⟨by omega,fun i hi =>?_⟩;have hi':i<l.length:=by omega
 rw[show nth aB (fR rd l) i=(cU (rd (nth aG l i).1).1).1 from rq (t:=aB) (u:=aG) hi'];exact b5 (mZ (u9 (h i hi'))).Up (by decide)
def PR{rd:Rd}{p:D aG}(h:(aI (rd p.1).2.2).isNil=false):jd rd p=false:=by
 unfold jd;rw[decide_eq_false (dK h)];rfl
def M6{rd:Rd}{p:D aG}(h:¬(rd p.1).2.1=p.2.1):jd rd p=false:=by
 unfold jd;rw[decide_eq_false h,fm]
def M7{rd:Rd}{p:D aG}(h:(aI (rd p.1).2.2).isNil=true)(h2:(rd p.1).2.1=p.2.1):jd rd p=true:=by
 unfold jd;rw[decide_eq_true (aP.1 h),decide_eq_true h2];rfl
def SU{rd:Rd}{e:D aC}(h:fL rd e=true)(hb:mL rd e.2.1=0) :
  ((jO (fV e.2.1) (fW e.2.1) (fR rd e.2.1) e.2.2.1).1,(jO (fV e.2.1) (fW e.2.1) (fR rd e.2.1) e.2.2.1).2,())=((kB rd e).1,aI (kB rd e).2,()):=by
 rw[PL h hb];simp only[q9 (HG _ _ _ _)]
structure gG (x:cN):Prop where
 st:dD x
 PS:∀y∈x.2.1.1,aO y.1=0/\y.2.1.1.length<=1200/\1<=y.2.1.2.1
def gG.new:gG ql:=⟨.new,fun y hy=>by simp[ql]at hy⟩
def HS{s:aD}{v:aD×Int×Unit}{c:Int}:∀{es:List FE} {y:FE},y∈eU cJ es s v c->(y.1=s/\y.2.1=v)\/y∈es
 |[],y,h=>by simp[eU]at h;subst h;exact .inl ⟨rfl,rfl⟩
 |z :: r,y,h=>by
  unfold eU at h;split at h
  ·rcases ag.1 h with rfl|h
   ·exact .inl ⟨rfl,rfl⟩
   ·exact .inr (by simp[h])
  ·rcases ag.1 h with rfl|h
   ·exact .inr (by simp)
   ·rcases HS h with h|h
    ·exact .inl h
    ·exact .inr (by simp[h])
def HT{x:cN}{s t:aD}(h:(cK x s t).2=0):aO s=0/\t.length<=1200/\¬x.1.1=1000000:=by
 unfold cK at h;split at h
 ·rename_i h1;exact absurd h h1
 ·rename_i h1
  split at h
  ·simp at h
  ·rename_i h2
   split at h
   ·simp at h
   ·rename_i h3
    exact⟨by simpa using h1,by omega,fun e=>h3 (.inr e)⟩
def dD.pos{x:cN}(h:dD x):0<=x.1.1:=h.pre.2.1
def gG.write{x:cN}(h:gG x)(s t:aD):gG (cK x s t).1:=by
 refine⟨(h.st.write s t).1,?_⟩;rcases mm x s t with⟨e,_⟩|⟨e,e2⟩
 ·rw[e];exact h.PS
 ·rw[e]
  intro y hy;obtain⟨k1,k2,_⟩:=HT e2;rcases HS hy with⟨h1,h2⟩|hy
  ·rw[h1,h2];exact⟨k1,k2,by have:=h.st.pos;show(1:Int)<=x.1.1+1;omega⟩
  ·exact h.PS y hy
def gG.remove{x:cN}(h:gG x)(s:aD):gG (fF x s).1:=by
 refine⟨(h.st.remove s).1,?_⟩;cases c:cW cJ x.2.1.1 s with
 |false=>rw[mz c];exact h.PS
 |true=>rw[lD c];exact fun y hy=>h.PS y (pV.subset hy)
def gG.ok{x:cN}(h:gG x):iI (aK x):=h.st.ok
def gG.read{x:cN}(h:gG x){s:aD}(hn:(aK x s).2.2=0):aO s=0/\(aK x s).1.length<=1200/\1<=(aK x s).2.1/\(aK x s).2.1<=x.1.1:=by
 refine⟨?_,?_,?_,MD h.st (aP.2 hn)⟩
 all_goals
  cases c:cW cJ x.2.1.1 s with
  |false=>rw[lL c]at hn;simp at hn
  |true=>
   obtain⟨r,hr⟩:=h.st.gJ;obtain⟨y,hy,e⟩:=l6.1 c;have hy':=h.PS y hy
   first
    |(rw[pr c,uY hr.names y hy e];first|exact hy'.2.1|exact hy'.2.2)
    |(rw[<-e];exact hy'.1)
def ET{rd:Rd}(ok:iI rd){root:aD}(h:(aI (dR rd root).2).isNil=true) :
  ∃ns os bs ps,aY rd root=(ns,os,bs,ps,0)/\ki rd root ns os bs ps/\dR rd root=((root,cB rd ns bs ns.length,ps,()),0):=by
 rcases M5 ok root with⟨f,hf,_,e⟩|h'
 ·rw[e]at h;exact absurd (aP.1 h) (by show ¬f=0;omega)
 ·exact h'
def PT{rd rd':Rd}{ns:List aD}{bs:List Int}(h:∀k∈ns,rd' k=rd k):cB rd' ns bs ns.length=cB rd ns bs ns.length:=by
 refine kj (t:=aG) (by rw[eX,eX]) fun i hi =>?_
 rw[eX]at hi;rw[ju hi,ju hi,h _ (dQ (t:=.str) hi)]
def M8{rd rd':Rd}{root:aD}{ns:List aD}{os:List (D aB)}{bs:List Int}{ps:List Pt}(e:aY rd root=(ns,os,bs,ps,0))(hr:ki rd root ns os bs ps)(h:∀k∈ns,rd' k=rd k):dR rd' root=dR rd root:=by
 have hs:bF rd' root=bF rd root:=JY (by rw[hr.e]) (by rw[hr.e];exact h);have e':aY rd' root=(ns,os,bs,ps,0):=by rw[HR hs,e]
 rw[yx (by rw[e']),yx (by rw[e]),e',e];simp only;rw[PT h]
def M9{p:D aG}(h:aO p.1 > 0):eG p=aO p.1:=by unfold eG;rw[if_pos h]
def qF{p:D aG}(h:aO p.1<=0)(h2:p.2.1<(1:Int)\/p.2.1 > (1000000:Int)\/p.2.2.1<(0:Int)\/p.2.2.1 > (255:Int)\/p.2.2.1 % (16:Int) > 0):eG p=1:=by
 unfold eG;rw[if_neg (by omega),if_pos h2]
def HU{p:D aG}(h:aO p.1<=0)(h1:(1:Int)<=p.2.1)(h2:p.2.1<=(1000000:Int))(h3:(0:Int)<=p.2.2.1)(h4:p.2.2.1<=(255:Int))(h5:p.2.2.1 % (16:Int)=0):eG p=0:=by
 unfold eG;rw[if_neg (by omega),if_neg];rintro(e|e|e|e|e)
 ·exact absurd e (ao.2 h1)
 ·exact absurd e (ao.2 h2)
 ·exact absurd e (ao.2 h3)
 ·exact absurd e (ao.2 h4)
 ·exact absurd (show(0:Int)<0 from h5▸e) (by decide)
def HV{b x:Int}(h:0<=b)(e:x=Int.tmod b 16):x=b % 16:=by rw[e,ez h]
def oV{n:Nat}{p:Pt}(h:p.1<(0:Int)\/p.1>=(n:Int)\/p.2.1<(0:Int)\/p.2.1 > (39:Int)\/p.2.2.1<(-2147483648:Int)\/p.2.2.1 > (2147483647:Int)):eN n p=1:=by
 unfold eN;rw[if_pos];rcases h with h|h|h|h|h|h
 ·exact .inl h
 ·exact .inr (.inl h)
 ·exact .inr (.inr (.inl h))
 ·exact .inr (.inr (.inr (.inl h)))
 ·refine .inr (.inr (.inr (.inr ?_)));unfold ib;rw[decide_eq_false (cp.2 h)];rfl
 ·refine .inr (.inr (.inr (.inr ?_)));unfold ib;rw[decide_eq_false (cp.2 h),fm]
def Ck{n:Nat}{p:Pt}(h1:(0:Int)<=p.1)(h2:p.1<(n:Int))(h3:(0:Int)<=p.2.1)(h4:p.2.1<=(39:Int))(h5:(-2147483648:Int)<=p.2.2.1)(h6:p.2.2.1<=(2147483647:Int)):eN n p=0:=by
 unfold eN;rw[if_neg];rintro(e|e|e|e|e)
 ·exact absurd e (ao.2 h1)
 ·exact absurd h2 (ao.2 e)
 ·exact absurd e (ao.2 h3)
 ·exact absurd e (ao.2 h4)
 ·unfold ib at e;rw[decide_eq_true h5,decide_eq_true h6]at e;cases e
def iJ{e:D aC}(h1:(1:Int)<=(e.2.1.length:Int))(h2:(e.2.1.length:Int)<=6)(h3:(e.2.2.1.length:Int)<=36):¬rb e:=by
 rintro(k|k|k)
 ·have k:e.2.1.length<1:=k;omega
 ·have k:e.2.1.length > 6:=k;omega
 ·have k:e.2.2.1.length > 36:=k;omega
def nh(p:D aG):aD:=[32]++p.1++[32]++ab p.2.1++[32]++ab p.2.2.1
def ni(p:D aR):aD:=[32]++ab p.1++[32]++ab p.2.1++[32]++ab p.2.2.1
def vh(e:D aC):aD:=e.1++[32]++ab (e.2.1.length:Int)++[32]++ab (e.2.2.1.length:Int)
def jK(e:D aC)(i:Nat):aD:=vh e++(e.2.1.take i).flatMap nh
def jv(e:D aC)(i:Nat):aD:=jK e e.2.1.length++(e.2.2.1.take i).flatMap ni
def re(e:D aC):aD:=jv e e.2.2.1.length
def fS(e:D aC):aD:=re e++[10]
def dG(e:D aC):aD×aL:=if bB e≠0 then([],aI (bB e))else(fS e,.nil)
def Na(e:D aC):jK e 0=vh e:=by unfold jK;simp
def Nb(e:D aC):jv e 0=jK e e.2.1.length:=by unfold jv;simp
def Nc{e:D aC}{i:Nat}(h:i<e.2.1.length):jK e (i+1)=jK e i++nh (nth aG e.2.1 i):=by
 unfold jK;rw[ie (t:=aG) h];simp
def Nd{e:D aC}{i:Nat}(h:i<e.2.2.1.length):jv e (i+1)=jv e i++ni (nth aR e.2.2.1 i):=by
 unfold jv;rw[ie (t:=aR) h];simp
structure ld (e:D aC):Prop where
 nm:Nm e.1
 p1:1<=e.2.1.length
 p6:e.2.1.length<=6
 Cm:e.2.2.1.length<=36
 parts:∀i,i<e.2.1.length->Nm (nth aG e.2.1 i).1/\ij 1 1000000 (nth aG e.2.1 i).2.1/\ij 0 255 (nth aG e.2.1 i).2.2.1
 HW:∀i,i<e.2.2.1.length->ij 0 5 (nth aR e.2.2.1 i).1/\ij 0 39 (nth aR e.2.2.1 i).2.1/\ij (-2147483648) 2147483647 (nth aR e.2.2.1 i).2.2.1
def Cn{n:Nat}{p:Pt}(h:¬eN n p=0):eN n p=1:=by
 unfold eN at h ⊢;split
 ·rfl
 ·rename_i hh;rw[if_neg hh]at h;exact absurd rfl h
def lG{e:D aC}(h:bB e=0):ld e:=by
 have h0:aO e.1=0:=by
  apply aq;intro hn;have:=eV e.1;rw[zL (by omega)]at h;exact hn h
 have h1:¬rb e:=by
  intro hm;rw[qm (by omega) hm]at h;cases h
 have h2:∀i,(∀j,j<i->j<e.2.1.length->eG (nth aG e.2.1 j)=0)/\(i<e.2.1.length->eG (nth aG e.2.1 i)=0):=by
  intro i;induction i with
  |zero=>
   refine⟨fun j hj=>by omega,fun hi =>?_⟩;apply aq;intro hn;rw[jC (i:=0) (by omega) h1 (fun j hj=>by omega) hi rfl hn]at h;exact hn h
  |succ i ih=>
   have hs:∀j,j<i+1->j<e.2.1.length->eG (nth aG e.2.1 j)=0:=fun j hj hl=>by
    rcases bg j i with hh|hh
    ·exact ih.1 j hh hl
    ·obtain rfl:j=i:=by omega
     exact ih.2 hl
   refine⟨hs,fun hi =>?_⟩;apply aq;intro hn;rw[jC (i:=i+1) (by omega) h1 (fun j hj=>hs j hj (by omega)) hi rfl hn]at h;exact hn h
 have h2':∀i,i<e.2.1.length->eG (nth aG e.2.1 i)=0:=fun i=>(h2 i).2
 have h3:∀i,(∀j,j<i->j<e.2.2.1.length->eN e.2.1.length (nth aR e.2.2.1 j)=0)/\(i<e.2.2.1.length->eN e.2.1.length (nth aR e.2.2.1 i)=0):=by
  intro i;induction i with
  |zero=>
   refine⟨fun j hj=>by omega,fun hi =>?_⟩;apply aq;intro hn;rw[jD (i:=0) (by omega) h1 h2' (fun j hj=>by omega) hi (Cn hn)]at h;cases h
  |succ i ih=>
   have hs:∀j,j<i+1->j<e.2.2.1.length->eN e.2.1.length (nth aR e.2.2.1 j)=0:=fun j hj hl=>by
    rcases bg j i with hh|hh
    ·exact ih.1 j hh hl
    ·obtain rfl:j=i:=by omega
     exact ih.2 hl
   refine⟨hs,fun hi =>?_⟩;apply aq;intro hn;rw[jD (i:=i+1) (by omega) h1 h2' (fun j hj=>hs j hj (by omega)) hi (Cn hn)]at h;cases h
 have p1:1<=e.2.1.length:=bc.1 fun k=>h1 (.inl k)
 have p6:e.2.1.length<=6:=bc.1 fun k=>h1 (.inr (.inl k))
 refine⟨B7 h0,p1,p6,bc.1 fun k=>h1 (.inr (.inr k)),fun i hi =>?_,fun i hi =>?_⟩
 ·have k:=h2' i hi
  unfold eG at k;split at k
  ·rename_i hn;omega
  ·rename_i hn
   split at k
   ·cases k
   ·rename_i hb
    have:=eV (nth aG e.2.1 i).1;exact⟨B7 (by omega),⟨ao.1 fun k=>hb (.inl k),ao.1 fun k=>hb (.inr (.inl k))⟩,⟨ao.1 fun k=>hb (.inr (.inr (.inl k))),ao.1 fun k=>hb (.inr (.inr (.inr (.inl k))))⟩⟩
 ·have k:=(h3 i).2 hi
  unfold eN at k;split at k
  ·cases k
  ·rename_i hb
   have hw:ib (nth aR e.2.2.1 i).2.2.1=true:=by
    apply Bool.not_eq_false _ |>.mp
    intro k;exact hb (.inr (.inr (.inr (.inr k))))
   unfold ib at hw;simp only[af,decide_eq_true_eq]at hw;have hl:(nth aR e.2.2.1 i).1<(e.2.1.length:Int):=cp.1 fun k=>hb (.inr (.inl k))
   exact⟨⟨ao.1 fun k=>hb (.inl k),by omega⟩,⟨ao.1 fun k=>hb (.inr (.inr (.inl k))),ao.1 fun k=>hb (.inr (.inr (.inr (.inl k))))⟩,hw⟩
def Nf{p:D aG}(h1:Nm p.1)(h2:ij 1 1000000 p.2.1)(h3:ij 0 255 p.2.2.1):(nh p).length<=64:=by
 have a:=h1.2.1;have b:=dF h2 (by decide) (by decide);have c:=dF h3 (by decide) (by decide);simp[nh];omega
def Ng{p:D aR}(h1:ij 0 5 p.1)(h2:ij 0 39 p.2.1)(h3:ij (-2147483648) 2147483647 p.2.2.1):(ni p).length<=64:=by
 have a:=dF h1 (by decide) (by decide);have b:=dF h2 (by decide) (by decide);have c:=dF h3 (by decide) (by decide);simp[ni];omega
def ld.head{e:D aC}(h:ld e):(vh e).length<=64:=by
 have a:=h.nm.2.1;have b:=dF (n:=(e.2.1.length:Int)) (a:=0) (b:=6) ⟨by omega,by have:=h.p6;omega⟩ (by decide) (by decide);have c:=dF (n:=(e.2.2.1.length:Int)) (a:=0) (b:=36) ⟨by omega,by have:=h.Cm;omega⟩ (by decide) (by decide);simp[vh];omega
def ld.Hw{e:D aC}(h:ld e)(i:Nat):(jK e i).length<=448:=by
 have a:=h.head;have b:=oJ (f:=nh) (l:=e.2.1.take i) fun x hx=>by
  obtain⟨j,hj,rfl⟩:=fN (t:=aG) (b8 hx);obtain⟨k1,k2,k3⟩:=h.parts j hj;exact Nf k1 k2 k3
 have c:=h.p6;have d:(e.2.1.take i).length<=e.2.1.length:=by simp;omega
 unfold jK;rw[aw];omega
def ld.AI{e:D aC}(h:ld e)(i:Nat):(jv e i).length<=2752:=by
 have a:=h.Hw e.2.1.length;have b:=oJ (f:=ni) (l:=e.2.2.1.take i) fun x hx=>by
  obtain⟨j,hj,rfl⟩:=fN (t:=aR) (b8 hx);obtain⟨k1,k2,k3⟩:=h.HW j hj;exact Ng k1 k2 k3
 have c:=h.Cm;have d:(e.2.2.1.take i).length<=e.2.2.1.length:=by simp;omega
 unfold jv;rw[aw];omega
def ld.lens{e:D aC}(h:ld e):e.1.length<=8/\(ab (e.2.1.length:Int)).length<=19/\(ab (e.2.2.1.length:Int)).length<=19:=
 ⟨h.nm.2.1,dF (a:=0) (b:=6) ⟨by omega,by have:=h.p6;omega⟩ (by decide) (by decide),dF (a:=0) (b:=36) ⟨by omega,by have:=h.Cm;omega⟩ (by decide) (by decide)⟩
def ld.W0{e:D aC}(h:ld e){i:Nat}(hi:i<e.2.1.length):(nth aG e.2.1 i).1.length<=8/\(ab (nth aG e.2.1 i).2.1).length<=19/\(ab (nth aG e.2.1 i).2.2.1).length<=19/\(jK e i).length<=448:=by
 obtain⟨k1,k2,k3⟩:=h.parts i hi;exact⟨k1.2.1,dF k2 (by decide) (by decide),dF k3 (by decide) (by decide),h.Hw i⟩
def ld.W4{e:D aC}(h:ld e){i:Nat}(hi:i<e.2.2.1.length):(ab (nth aR e.2.2.1 i).1).length<=19/\(ab (nth aR e.2.2.1 i).2.1).length<=19/\(ab (nth aR e.2.2.1 i).2.2.1).length<=19/\(jv e i).length<=2752:=by
 obtain⟨k1,k2,k3⟩:=h.HW i hi;exact⟨dF k1 (by decide) (by decide),dF k2 (by decide) (by decide),dF k3 (by decide) (by decide),h.AI i⟩
def Nh{e:D aC}{i:Nat}(h:i<e.2.1.length):jK e i++nh (nth aG e.2.1 i)=jK e (i+1):=(Nc h).symm
def Ni{e:D aC}{i:Nat}(h:i<e.2.2.1.length):jv e i++ni (nth aR e.2.2.1 i)=jv e (i+1):=(Nd h).symm
def Nj{e:D aC}(h:bB e≠0):([],aI (bB e))=dG e:=by unfold dG;rw[if_pos h]
def PU{e:D aC}(h:bB e=0){i:Nat}(hi:i=e.2.2.1.length):(jv e i++[10],aL.nil)=dG e:=by unfold dG;rw[if_neg (not_not_intro h),hi];rfl
def vS(L:List aD):aD:=L.flatMap fun x=>32 :: x
def Dq(L M:List aD):vS (L++M)=vS L++vS M:=by simp[vS]
def HX:∀(a:aD) (L:List aD),nG 32 (a :: L)=a++vS L
 |a,[]=>by simp[nG,vS]
 |a,b :: r=>by rw[nG,HX b r];simp[vS]
def uc(p:D aG):List aD:=[p.1,ab p.2.1,ab p.2.2.1]
def ud(p:D aR):List aD:=[ab p.1,ab p.2.1,ab p.2.2.1]
def kU(e:D aC):List aD:=e.1 :: ([ab (e.2.1.length:Int),ab (e.2.2.1.length:Int)]++(e.2.1.flatMap uc++e.2.2.1.flatMap ud))
def AT{α:Type}{f:α->List aD}{g:α->aD}(h:∀x,vS (f x)=g x):∀l:List α,vS (l.flatMap f)=l.flatMap g
 |[]=>rfl
 |x :: l=>by rw[bx,Dq,h,AT h l,bx]
def zO(e:D aC):re e=nG 32 (kU e):=by
 unfold kU;rw[HX,Dq,Dq,AT (g:=nh) (by intro x;simp[uc,nh,vS]),AT (g:=ni) (by intro x;simp[ud,ni,vS])];unfold re jv jK vh;simp[vS]
def zP{e:D aC}(h:ld e):∀y∈kU e,(32:UInt8)∉y/\(10:UInt8)∉y:=by
 intro y hy;unfold kU at hy;rcases ag.1 hy with rfl|hy
 ·exact nI h.nm
 ·rcases au.1 hy with hy|hy
  ·simp at hy
   rcases hy with rfl|rfl <;> exact⟨jN _,nf _⟩
  ·rcases au.1 hy with hy|hy
   ·obtain⟨p,hp,hy⟩:=fo.1 hy
    obtain⟨j,hj,rfl⟩:=fN (t:=aG) hp;simp[uc]at hy;rcases hy with rfl|rfl|rfl
    ·exact nI (h.parts j hj).1
    ·exact⟨jN _,nf _⟩
    ·exact⟨jN _,nf _⟩
   ·obtain⟨p,hp,hy⟩:=fo.1 hy
    simp[ud]at hy;rcases hy with rfl|rfl|rfl <;> exact⟨jN _,nf _⟩
def Co{c:UInt8}(hc:c≠32):∀{L:List aD},(∀y∈L,c∉y)->c∉nG 32 L
 |[],_=>by simp[nG]
 |[x],h=>h x (by simp)
 |x :: y :: r,h=>by
  rw[nG];intro hm;rcases au.1 hm with hm|hm
  ·exact h x (by simp) hm
  ·rcases ag.1 hm with e|hm
   ·exact hc e
   ·exact Co hc (fun z hz=>h z (by simp[hz])) hm
def Nk{e:D aC}(h:ld e):(10:UInt8)∉re e:=by
 rw[zO];exact Co (by decide) fun y hy=>(zP h y hy).2
def J1{e:D aC}(h:ld e):parts 32 (re e)=kU e:=by
 rw[zO];exact tm (by unfold kU;simp) fun y hy=>(zP h y hy).1
def tq{e:D aC}(h:ld e):parts 32 (ae (fS e) [10])=kU e:=by
 unfold fS;rw[tY,J1 h]
theorem xB{α:Type}{f:α->List aD}(hf:∀x,(f x).length=3):∀l:List α,(l.flatMap f).length=3*l.length
 |[]=>rfl
 |x :: l=>by rw[bx,aw,hf,xB hf l,cj];omega
theorem xC{α:Type}[Inhabited α]{f:α->List aD}(hf:∀x,(f x).length=3):∀(l:List α) (i k:Nat),i<l.length->k<3->nth .str (l.flatMap f) (3*i+k)=nth .str (f (l.getD i default)) k
 |[],i,k,h,_=>by simp at h
 |x :: l,0,k,_,hk=>by
  rw[bx,sN (t:=.str) (by rw[hf];omega)];simp
 |x :: l,i+1,k,h,hk=>by
  rw[bx,pn,if_neg (by rw[hf];omega),hf,show 3*(i+1)+k-3=3*i+k by omega,xC hf l i k (by simpa using h) hk];simp
structure mo (w:List aD) (e:D aC):Prop where
 len:w.length=3+3*(e.2.1.length+e.2.2.1.length)
 root:nth .str w 0=e.1
 a:nth .str w 1=ab (e.2.1.length:Int)
 b:nth .str w 2=ab (e.2.2.1.length:Int)
 p0:∀i,i<e.2.1.length->nth .str w (3+3*i)=(nth aG e.2.1 i).1
 p1:∀i,i<e.2.1.length->nth .str w (4+3*i)=ab (nth aG e.2.1 i).2.1
 p2:∀i,i<e.2.1.length->nth .str w (5+3*i)=ab (nth aG e.2.1 i).2.2.1
 q0:∀i,i<e.2.2.1.length->nth .str w (3+3*(e.2.1.length+i))=ab (nth aR e.2.2.1 i).1
 q1:∀i,i<e.2.2.1.length->nth .str w (4+3*(e.2.1.length+i))=ab (nth aR e.2.2.1 i).2.1
 q2:∀i,i<e.2.2.1.length->nth .str w (5+3*(e.2.1.length+i))=ab (nth aR e.2.2.1 i).2.2.1
def zQ{t:Ty}{l:List (D t)}{i:Nat}(d:D t)(h:i<l.length):nth t l i=l.getD i d:=by
 unfold nth;rw[List.getD_eq_getElem?_getD,List.getD_eq_getElem?_getD,List.getElem?_eq_getElem h];rfl
def HY(e:D aC):mo (kU e) e:=by
 have hs:∀x,(uc x).length=3:=fun _=>rfl
 have hp:∀x,(ud x).length=3:=fun _=>rfl
 have ls:=xB hs e.2.1;have lp:=xB hp e.2.2.1;have at3:∀k,nth .str (kU e) (3+k)=nth .str (e.2.1.flatMap uc++e.2.2.1.flatMap ud) k:=fun k=>by
  rw[show 3+k=k+1+1+1 by omega];rfl
 letI:Inhabited (D aG):=⟨bW aG⟩
 letI:Inhabited (D aR):=⟨bW aR⟩
 have hP:∀i k,i<e.2.1.length->k<3->nth .str (kU e) (3+(3*i+k))=nth .str (uc (nth aG e.2.1 i)) k:=fun i k hi hk=>by
  rw[at3,sN (t:=.str) (by omega),xC hs _ i k hi hk,zQ default hi]
 have hQ:∀i k,i<e.2.2.1.length->k<3->nth .str (kU e) (3+(3*(e.2.1.length+i)+k))=nth .str (ud (nth aR e.2.2.1 i)) k:=fun i k hi hk=>by
  rw[at3,pn,if_neg (by omega),ls,show 3*(e.2.1.length+i)+k-3*e.2.1.length=3*i+k by omega,xC hp _ i k hi hk,zQ default hi]
 refine⟨?_,rfl,rfl,rfl,fun i hi =>?_,fun i hi =>?_,fun i hi =>?_,fun i hi =>?_,fun i hi =>?_,fun i hi =>?_⟩
 ·unfold kU;simp only[cj,aw,fl,ls,lp];omega
 ·exact hP i 0 hi (by omega)
 ·rw[show 4+3*i=3+(3*i+1) by omega];exact hP i 1 hi (by omega)
 ·rw[show 5+3*i=3+(3*i+2) by omega];exact hP i 2 hi (by omega)
 ·exact hQ i 0 hi (by omega)
 ·rw[show 4+3*(e.2.1.length+i)=3+(3*(e.2.1.length+i)+1) by omega];exact hQ i 1 hi (by omega)
 ·rw[show 5+3*(e.2.1.length+i)=3+(3*(e.2.1.length+i)+2) by omega];exact hQ i 2 hi (by omega)
def partAt(A:aD->Int)(w:List aD)(i:Nat):D aG:=(nth .str w (3+3*i),A (nth .str w (4+3*i)),A (nth .str w (5+3*i)),())
def ue(A:aD->Int)(w:List aD)(i:Nat):D aR:=(A (nth .str w (3+3*i)),A (nth .str w (4+3*i)),A (nth .str w (5+3*i)),())
def dX(A:aD->Int)(w:List aD)(n:Nat):List (D aG):=(ba n).map (partAt A w)
def cT(A:aD->Int)(w:List aD)(a n:Nat):List (D aR):=(ba n).map fun i=>ue A w (a+i)
def zR(A:aD->Int)(w:List aD)(n:Nat):(dX A w n).length=n:=by simp[dX]
def vT(A:aD->Int)(w:List aD)(a n:Nat):(cT A w a n).length=n:=by simp[cT]
def J2{A:aD->Int}{w:List aD}{n i:Nat}(h:i<n):nth aG (dX A w n) i=partAt A w i:=by
 unfold nth dX;rw[List.getD_eq_getElem?_getD,List.getElem?_map,List.getElem?_range h];rfl
def F1{A:aD->Int}{w:List aD}{a n i:Nat}(h:i<n):nth aR (cT A w a n) i=ue A w (a+i):=by
 unfold nth cT;rw[List.getD_eq_getElem?_getD,List.getElem?_map,List.getElem?_range h];rfl
def HZ(A:aD->Int)(w:List aD)(n:Nat):dX A w (n+1)=dX A w n++[partAt A w n]:=by simp[dX,cq]
def Dr(A:aD->Int)(w:List aD)(a n:Nat):cT A w a (n+1)=cT A w a n++[ue A w (a+n)]:=by simp[cT,cq]
def Ur(A:aD->Int):Prop:=∀n:Int,ij (-2147483648) 2147483647 n->A (ab n)=n
def gX{a b n:Int}(h:ij a b n)(ha : -2147483648<=a)(hb:b<=2147483647):ij (-2147483648) 2147483647 n:=⟨b7 ha h.1,b7 h.2 hb⟩
def ld.na{e:D aC}(h:ld e):ij 0 6 (e.2.1.length:Int):=⟨by omega,by have:=h.p6;omega⟩
def ld.nb{e:D aC}(h:ld e):ij 0 36 (e.2.2.1.length:Int):=⟨by omega,by have:=h.Cm;omega⟩
def mo.eq{A:aD->Int}(hA:Ur A){w:List aD}{e:D aC}(r:mo w e)(h:ld e):e=(nth .str w 0,dX A w e.2.1.length,cT A w e.2.1.length e.2.2.1.length,()):=by
 obtain⟨s,p,q,_⟩:=e;have e1:p=dX A w p.length:=kj (t:=aG) (by rw[zR]) fun i hi=>by
  rw[J2 hi];obtain⟨k1,k2,k3⟩:=h.parts i hi;unfold partAt;rw[r.p0 i hi,r.p1 i hi,r.p2 i hi,hA _ (gX k2 (by decide) (by decide)),hA _ (gX k3 (by decide) (by decide))]
 have e2:q=cT A w p.length q.length:=kj (t:=aR) (by rw[vT]) fun i hi=>by
  rw[F1 hi];obtain⟨k1,k2,k3⟩:=h.HW i hi;unfold ue;rw[r.q0 i hi,r.q1 i hi,r.q2 i hi,hA _ (gX k1 (by decide) (by decide)),hA _ (gX k2 (by decide) (by decide)),hA _ k3]
 have e0:nth .str w 0=s:=r.root;rw[e0];exact congrArg (fun z=>(s,z)) (show(p,q,())=(dX A w p.length,cT A w p.length q.length,()) by rw[<-e1,<-e2])
def dC(s:aD):Int:=(dZ s).1
def iK:Ur dC:=fun n h=>by
 have:=rp h (by decide) (by decide);exact ng this
def PV{e e':D aC}(h:bB e=0)(h':bB e'=0)(ht:fS e=fS e'):e=e':=by
 have k:=lG h;have k':=lG h';have hw:kU e=kU e':=by rw[<-tq k,<-tq k',ht]
 have r:=HY e;have r':=HY e';rw[hw]at r;have ha:(e.2.1.length:Int)=(e'.2.1.length:Int):=by
  rw[<-iK _ (gX k.na (by decide) (by decide)),<-iK _ (gX k'.na (by decide) (by decide)),<-r.a,<-r'.a]
 have hb:(e.2.2.1.length:Int)=(e'.2.2.1.length:Int):=by
  rw[<-iK _ (gX k.nb (by decide) (by decide)),<-iK _ (gX k'.nb (by decide) (by decide)),<-r.b,<-r'.b]
 refine(r.eq iK k).trans (Eq.trans ?_ (r'.eq iK k').symm);rw[dd.1 ha,dd.1 hb]
open Classical in
def oM(s:aD):D aC×Int:=if h:∃e:D aC,bB e=0/\fS e=s then(b9 h,0)else(bW aC,4)
def Lh{s:aD}{e:D aC}(hf:bB e=0)(ht:fS e=s):oM s=(e,0):=by
 have hx:∃e:D aC,bB e=0/\fS e=s:=⟨e,hf,ht⟩
 have hc:=cz hx;unfold oM;rw[dif_pos hx,PV hc.1 hf (hc.2.trans ht.symm)]
def SW{s:aD}(hn:∀e:D aC,bB e=0->fS e=s->False):oM s=(bW aC,4):=by
 unfold oM;rw[dif_neg fun⟨e,h1,h2⟩=>hn e h1 h2]
def gV(s:aD):D aC×aL:=((oM s).1,aI (oM s).2)
def pD{s:aD}(hn:∀e:D aC,bB e=0->fS e=s->False):(bW aC,aL.no 4)=gV s:=by unfold gV;rw[SW hn];rfl
def PW{s:aD}{e:D aC}(h:(dG e).2.isNil=true)(ht:(dG e).1=s):(e,aL.nil)=gV s:=by
 have hf:bB e=0:=by
  apply aq;intro hf;unfold dG at h;rw[if_pos hf]at h;exact hf (aP.1 h)
 unfold dG at ht;rw[if_neg (not_not_intro hf)]at ht;unfold gV;rw[Lh hf ht];rfl
def l9(l:List aD):List Int:=l.map dC
def vj(l:List aD):Bool:=l.all fun s=>(cS s).isSome
def bS(l:List aD):List Int×Bool:=if vj l=true then(l9 l,true)else([],false)
def SX{l:List aD}{i:Nat}(hi:i<l.length)(h:cS (nth .str l i)=none):vj l=false:=by
 unfold vj;rw[c6];exact⟨nth .str l i,dQ (t:=.str) hi,by rw[h];decide⟩
def zS{l:List aD}{i:Nat}(hi:i<l.length)(h:(cS (nth .str l i)).isNone=true):([],false)=bS l:=by
 unfold bS;rw[SX hi (Option.isNone_iff_eq_none.1 h)];rfl
def vk{l:List aD}(h:∀j,j<l.length->(cS (nth .str l j)).isNone=false):vj l=true:=by
 unfold vj;rw[ca];intro s hs;obtain⟨j,hj,rfl⟩:=fN (t:=.str) hs;have:=h j hj;cases hh:cS (nth .str l j)with
 |none=>rw[hh]at this;cases this
 |some n=>rfl
def Nl{l:List aD}{i:Nat}(hi:¬i<l.length)(h:∀j,j<i->j<l.length->(cS (nth .str l j)).isNone=false):(l9 (l.take i),true)=bS l:=by
 unfold bS;rw[vk fun j hj=>h j (by omega) hj,if_pos rfl,cg (by omega)]
def Cp{l:List aD}{i:Nat}(h:i<l.length):l9 (l.take (i+1))=l9 (l.take i)++[(dZ (nth .str l i)).1]:=by
 rw[ie (t:=.str) h];simp[l9,dC]
def nj{l:List aD}:(bS l).2=vj l:=by
 unfold bS;split
 ·rename_i h;rw[h]
 ·rename_i h;rw[fh _ |>.mp h]
def zT{l:List aD}(h:(bS l).2=true){i:Nat}(hi:i<l.length):nth (.int .i64) (bS l).1 i=dC (nth .str l i)/\(cS (nth .str l i)).isNone=false:=by
 have hk:=h;rw[nj]at hk;constructor
 ·unfold bS;rw[if_pos hk]
  unfold nth l9;rw[List.getD_eq_getElem?_getD,List.getD_eq_getElem?_getD,List.getElem?_map,List.getElem?_eq_getElem hi];rfl
 ·unfold vj at hk
  rw[ca]at hk;have:=hk _ (dQ (t:=.str) hi);cases hh:cS (nth .str l i)with
  |none=>rw[hh]at this;cases this
  |some n=>rfl
def J3{l:List aD}(h:(bS l).2=true):(bS l).1.length=l.length:=by
 rw[nj]at h;unfold bS;rw[if_pos h];simp[l9]
structure pY (w:List aD):Prop where
 ka:(cS (nth .str w 1)).isNone=false
 kb:(cS (nth .str w 2)).isNone=false
 a0:(0:Int)<=dC (nth .str w 1)
 a6:dC (nth .str w 1)<=(6:Int)
 b0:(0:Int)<=dC (nth .str w 2)
 fG:dC (nth .str w 2)<=(36:Int)
 len:(w.length:Int)=3+3*(dC (nth .str w 1)+dC (nth .str w 2))
def Cq{t:Ty}{l:List (D t)}{i j k:Nat}(h:i+k<j):nth t (ai i (ah j l)) k=nth t l (i+k):=by
 unfold nth;rw[List.getD_eq_getElem?_getD,List.getD_eq_getElem?_getD,List.getElem?_drop,List.getElem?_take,if_pos h]
def H0{α:Type}{l:List α}{i j:Nat}(h:j<=l.length):(ai i (ah j l)).length=j-i:=by simp;omega
def PX(s:aD)(c:UInt8)(h:s.length<=100000):(parts c (ae s [10])).length<=100001:=by
 have a:=sK c (ae s [10]);have b:=yw s [10];omega
def qG{l:List aD}{n:Nat}(h:∀y∈l,y.length<=n)(i:Nat):(nth .str l i).length<=n:=by
 by_cases hi:i<l.length
 ·exact h _ (dQ (t:=.str) hi)
 ·unfold nth;rw[List.getD_eq_getElem?_getD,List.getElem?_eq_none (by omega)];exact ar _
def tt{s:aD}{c:UInt8}(h:s.length<=100000):∀y∈parts c (ae s [10]),y.length<=1000000:=fun y hy=>by
 have a:=oI c _ y hy;have b:=yw s [10];omega
def H2{l:List aD}{n:Nat}(h:∀y∈l,y.length<=n)(i j:Nat):∀y∈ai i (ah j l),y.length<=n:=fun y hy=>h y (b8 (List.mem_of_mem_drop hy))
def Va{s:aD}{c:UInt8}(h:s.length<=100000)(i j:Nat):(ai i (ah j (parts c (ae s [10])))).length<=1000000/\∀k,(nth .str (ai i (ah j (parts c (ae s [10])))) k).length<=1000000:=
 ⟨by have:=PX s c h;simp;omega,qG (H2 (tt h) i j)⟩
def Vb{w:List aD}(h:3<=w.length)(hk:(bS (ai 1 (ah 3 w))).2=true) :
  (bS (ai 1 (ah 3 w))).1=[dC (nth .str w 1),dC (nth .str w 2)]/\(cS (nth .str w 1)).isNone=false/\(cS (nth .str w 2)).isNone=false:=by
 have hl:(ai 1 (ah 3 w)).length=2:=H0 h;obtain⟨a1,a2⟩:=zT hk (i:=0) (by omega);obtain⟨b1,b2⟩:=zT hk (i:=1) (by omega);have hn:=J3 hk;rw[Cq (t:=.str) (by omega)]at a1 a2 b1 b2;refine⟨kj (t:=.int .i64) (by rw[hn,hl];rfl) fun i hi =>?_,a2,b2⟩;rw[hn,hl]at hi;rcases(show i=0\/i=1 by omega)with rfl|rfl
 ·rw[a1];rfl
 ·rw[b1];rfl
def J4{w:List aD}(h:3<=w.length)(hk:(bS (ai 1 (ah 3 w))).2=false):¬pY w:=by
 intro hd;have hl:(ai 1 (ah 3 w)).length=2:=H0 h;rw[nj,vk fun j hj =>?_]at hk
 ·cases hk
 ·rw[hl]at hj
  rcases(show j=0\/j=1 by omega)with rfl|rfl
  ·rw[Cq (t:=.str) (by omega)];exact hd.ka
  ·rw[Cq (t:=.str) (by omega)];exact hd.kb
def H3{w:List aD}(h:¬pY w):(true=false↔pY w):=⟨fun e=>Bool.noConfusion e,fun e=>absurd e h⟩
def Ww{w:List aD}(ka:(cS (nth .str w 1)).isNone=false)(kb:(cS (nth .str w 2)).isNone=false){a b x:Int}(ha:a=dC (nth .str w 1))(hb:b=dC (nth .str w 2))
  (a0:0<=a)(a6:a<=6)(b0:0<=b)(fG:b<=36)(hx:x=3*(a+b)):(((w.length:Int) != 3+x)=false↔pY w):=by
 subst ha;subst hb;subst hx;constructor
 ·intro h;exact⟨ka,kb,a0,a6,b0,fG,by simpa using h⟩
 ·intro h;simpa using h.len
def pZ{s:aD}{e:D aC}(hf:bB e=0)(ht:fS e=s):mo (parts 32 (ae s [10])) e/\ld e:=by
 have k:=lG hf;rw[<-ht,tq k];exact⟨HY e,k⟩
def mo.na{A:aD->Int}(hA:Ur A){w:List aD}{e:D aC}(r:mo w e)(k:ld e):A (nth .str w 1)=(e.2.1.length:Int):=by rw[r.a,hA _ (gX k.na (by decide) (by decide))]
def mo.nb{A:aD->Int}(hA:Ur A){w:List aD}{e:D aC}(r:mo w e)(k:ld e):A (nth .str w 2)=(e.2.2.1.length:Int):=by rw[r.b,hA _ (gX k.nb (by decide) (by decide))]
def nk{n:Int}(h:ij (-2147483648) 2147483647 n):(cS (ab n)).isNone=false:=by rw[rp h (by decide) (by decide)];rfl
def mo.hd{w:List aD}{e:D aC}(r:mo w e)(k:ld e):pY w:=by
 have a:=r.na iK k;have b:=r.nb iK k;have c:=k.p6;have d:=k.Cm;have l:=r.len;refine⟨by rw[r.a];exact nk (gX k.na (by decide) (by decide)),by rw[r.b];exact nk (gX k.nb (by decide) (by decide)),?_,?_,?_,?_,?_⟩ <;> (try rw[a]) <;> (try rw[b]) <;> omega
section
variable{s:aD}
def H4(h:(parts 32 (ae s [10])).length<3):(bW aC,aL.no 4)=gV s:=pD fun e hf ht=>by
 have:=(pZ hf ht).1.len;omega
def J5(h:¬pY (parts 32 (ae s [10]))):(bW aC,aL.no 4)=gV s:=pD fun e hf ht=>h ((pZ hf ht).1.hd (pZ hf ht).2)
def SY{w:List aD}{e:D aC}(r:mo w e)(k:ld e){i:Nat}(hi:i<e.2.1.length):(cS (nth .str w (4+3*i))).isNone=false/\(cS (nth .str w (5+3*i))).isNone=false:=by
 obtain⟨_,k2,k3⟩:=k.parts i hi;rw[r.p1 i hi,r.p2 i hi];exact⟨nk (gX k2 (by decide) (by decide)),nk (gX k3 (by decide) (by decide))⟩
def PY{w:List aD}{e:D aC}(r:mo w e)(k:ld e){i:Nat}(hi:e.2.1.length<=i)(hi2:i<e.2.1.length+e.2.2.1.length) :
  (cS (nth .str w (3+3*i))).isNone=false/\(cS (nth .str w (4+3*i))).isNone=false/\(cS (nth .str w (5+3*i))).isNone=false:=by
 obtain⟨j,rfl⟩:∃j,i=e.2.1.length+j:=⟨i-e.2.1.length,by omega⟩
 obtain⟨k1,k2,k3⟩:=k.HW j (by omega);rw[r.q0 j (by omega),r.q1 j (by omega),r.q2 j (by omega)];exact⟨nk (gX k1 (by decide) (by decide)),nk (gX k2 (by decide) (by decide)),nk k3⟩
structure lj (w x:List aD) (i:Nat):Prop where
 len:x.length=3
 a:nth .str x 0=nth .str w (3+3*i)
 b:nth .str x 1=nth .str w (4+3*i)
 c:nth .str x 2=nth .str w (5+3*i)
def PZ{w:List aD}{i:Nat}{p q:Int}(hp:p=3*(i:Int))(hq:q=3*(i:Int))(h:3+3*(i+1)<=w.length):lj w (ai (cc (3+p)) (ah (cc (6+q)) w)) i:=by
 subst hp;subst hq;rw[show cc (3+3*(i:Int))=3+3*i by omega,show cc (6+3*(i:Int))=6+3*i by omega];refine⟨by rw[H0 (by omega)];omega,?_,?_,?_⟩ <;> rw[Cq (t:=.str) (by omega)] <;> congr 1 <;> omega
def zU{n:Nat}{w x:List aD}{i:Nat}(h:lj w x i)(hw:∀y∈w,y.length<=n)(k:Nat):(nth .str x k).length<=n:=by
 rcases bg k 3 with hk|hk
 ·rcases(show k=0\/k=1\/k=2 by omega)with rfl|rfl|rfl
  ·rw[h.a];exact qG hw _
  ·rw[h.b];exact qG hw _
  ·rw[h.c];exact qG hw _
 ·unfold nth;rw[List.getD_eq_getElem?_getD,List.getElem?_eq_none (by rw[h.len];omega)];exact ar _
def Cr{w x:List aD}{i:Nat}(h:lj w x i):ai 1 (ah (bj x) x)=[nth .str w (4+3*i),nth .str w (5+3*i)]:=by
 match x,h with
 |[p,q,r],h=>rw[<-h.b,<-h.c];rfl
def H5{w x:List aD}{i:Nat}(h:lj w x i):x=[nth .str w (3+3*i),nth .str w (4+3*i),nth .str w (5+3*i)]:=by
 match x,h with
 |[p,q,r],h=>rw[<-h.a,<-h.b,<-h.c];rfl
def EU{w x:List aD}{i:Nat}(h:lj w x i)(hk:(bS (ai 1 (ah (bj x) x))).2=true) :
  (bS (ai 1 (ah (bj x) x))).1=[dC (nth .str w (4+3*i)),dC (nth .str w (5+3*i))]:=by
 rw[nj]at hk;unfold bS;rw[if_pos hk,Cr h];rfl
def H6{w x:List aD}{i:Nat}(h:lj w x i)(hk:(bS x).2=true):(bS x).1=[dC (nth .str w (3+3*i)),dC (nth .str w (4+3*i)),dC (nth .str w (5+3*i))]:=by
 rw[nj]at hk;unfold bS;rw[if_pos hk];conv=>lhs;rw[H5 h]
 rfl
def J6{x:List aD}{i:Nat}(h:lj (parts 32 (ae s [10])) x i)(hi:(i:Int)<dC (nth .str (parts 32 (ae s [10])) 1))(hk:(bS (ai 1 (ah (bj x) x))).2=false):(bW aC,aL.no 4)=gV s:=
 pD fun e hf ht=>by
  obtain⟨r,k⟩:=pZ hf ht;rw[r.na iK k]at hi;obtain⟨a,b⟩:=SY r k (i:=i) (by omega);rw[nj,Cr h,vk fun j hj =>?_]at hk
  ·cases hk
  ·rcases(show j=0\/j=1 by simp at hj;omega)with rfl|rfl
   ·exact a
   ·exact b
def H7{x:List aD}{i:Nat}(h:lj (parts 32 (ae s [10])) x i)(hi:dC (nth .str (parts 32 (ae s [10])) 1)<=(i:Int))(hi2:(i:Int)<dC (nth .str (parts 32 (ae s [10])) 1)+dC (nth .str (parts 32 (ae s [10])) 2))(hk:(bS x).2=false):(bW aC,aL.no 4)=gV s:=
 pD fun e hf ht=>by
  obtain⟨r,k⟩:=pZ hf ht;rw[r.na iK k]at hi hi2;rw[r.nb iK k]at hi2;obtain⟨a,b,c⟩:=PY r k (i:=i) (by omega) (by omega);rw[H5 h]at hk;rw[nj,vk fun j hj =>?_]at hk
  ·cases hk
  ·rcases(show j=0\/j=1\/j=2 by simp at hj;omega)with rfl|rfl|rfl
   ·exact a
   ·exact b
   ·exact c
def Ge(A:aD->Int)(w:List aD)(a b:Nat):D aC:=(nth .str w 0,dX A w a,cT A w a b,())
def zV{a b:Nat}(ha:dC (nth .str (parts 32 (ae s [10])) 1)=(a:Int))(hb:dC (nth .str (parts 32 (ae s [10])) 2)=(b:Int))
  (h:(dG (Ge dC (parts 32 (ae s [10])) a b)).2.isNil=false\/¬(dG (Ge dC (parts 32 (ae s [10])) a b)).1=s):(bW aC,aL.no 4)=gV s:=
 pD fun e hf ht=>by
  obtain⟨r,k⟩:=pZ hf ht;rw[r.na iK k]at ha;rw[r.nb iK k]at hb;have he:Ge dC (parts 32 (ae s [10])) a b=e:=by
   rw[<-dd.1 ha,<-dd.1 hb];exact(r.eq iK k).symm
  rw[he]at h;unfold dG at h;rw[if_neg (not_not_intro hf)]at h;rcases h with h|h
  ·cases h
  ·exact h ht
end
def qV(w:List aD)(y:List Int×Bool):Prop:=(y.2=true->y.1=[dC (nth .str w 1),dC (nth .str w 2)]/\(cS (nth .str w 1)).isNone=false/\(cS (nth .str w 2)).isNone=false)/\(y.2=false->¬pY w)
def Vc{w:List aD}(h:3<=w.length):qV w (bS (ai 1 (ah 3 w))):=⟨fun hk=>Vb h hk,fun hk=>J4 h hk⟩
def qV.ok{w:List aD}{y:List Int×Bool}(h:qV w y)(hd:pY w):y.2=true:=by
 cases hy:y.2 with
 |true=>rfl
 |false=>exact absurd hd (h.2 hy)
def qV.get{w:List aD}{y:List Int×Bool}(h:qV w y)(hd:pY w):y.1=[dC (nth .str w 1),dC (nth .str w 2)]:=(h.1 (h.ok hd)).1
def qV.l0{w:List aD}{y:List Int×Bool}(h:qV w y)(hy:y.2=true):@Eq Int (nth (.int .i64) y.1 0) (dC (nth .str w 1)):=by rw[(h.1 hy).1];rfl
def qV.l1{w:List aD}{y:List Int×Bool}(h:qV w y)(hy:y.2=true):@Eq Int (nth (.int .i64) y.1 1) (dC (nth .str w 2)):=by rw[(h.1 hy).1];rfl
def qV.k0{w:List aD}{y:List Int×Bool}(h:qV w y)(hd:pY w):@Eq Int (nth (.int .i64) y.1 0) (dC (nth .str w 1)):=h.l0 (h.ok hd)
def qV.k1{w:List aD}{y:List Int×Bool}(h:qV w y)(hd:pY w):@Eq Int (nth (.int .i64) y.1 1) (dC (nth .str w 2)):=h.l1 (h.ok hd)
def P0{w x:List aD}{i:Nat}(h:lj w x i)(hw:∀y∈w,y.length<=1000000):x.length<=1000000/\∀k,(nth .str x k).length<=1000000:=⟨by rw[h.len];decide,zU h hw⟩
def P1{w x:List aD}{i:Nat}(h:lj w x i){n:Nat}(hw:∀y∈w,y.length<=n):∀y∈x,y.length<=n:=fun y hy=>by
 obtain⟨k,hk,rfl⟩:=fN (t:=.str) hy;exact zU h hw k
def Nn{w x:List aD}{i:Nat}(h:lj w x i)(hw:∀y∈w,y.length<=1000000):(ai 1 (ah (bj x) x)).length<=1000000/\∀k,(nth .str (ai 1 (ah (bj x) x)) k).length<=1000000:=
 ⟨by have:=h.len;simp;omega,qG (H2 (P1 h hw) _ _)⟩
def P2(A:aD->Int)(w:List aD)(k:Nat):([]:List (D aG))=dX A w (a8 0 k):=by rw[show a8 0 k=0 from Nat.zero_min k];rfl
def Us(A:aD->Int)(w:List aD)(k:Nat):([]:List (D aR))=cT A w k (0-k):=by rw[Nat.zero_sub];rfl
def P3{i k:Nat}(h:i<k):a8 i k=i/\a8 (i+1) k=i+1:=⟨c7 (by omega),c7 h⟩
def H8{i k:Nat}(h:k<=i):a8 i k=k/\a8 (i+1) k=k:=⟨fp h,fp (by omega)⟩
def EV{w x:List aD}{i k:Nat}(h:lj w x i)(hk:(bS (ai 1 (ah (bj x) x))).2=true)(hi:i<k) :
  dX dC w (a8 i k)++[(nth .str x 0,nth (.int .i64) (bS (ai 1 (ah (bj x) x))).1 0,nth (.int .i64) (bS (ai 1 (ah (bj x) x))).1 1,())]=dX dC w (a8 (i+1) k):=by
 rw[(P3 hi).1,(P3 hi).2,HZ,EU h hk,h.a];rfl
def EW{A:aD->Int}{w:List aD}{i k:Nat}(hi:i<k):cT A w k (i-k)=cT A w k (i+1-k):=by congr 1;omega
def Cs{A:aD->Int}{w:List aD}{i k:Nat}(hi:k<=i):dX A w (a8 i k)=dX A w (a8 (i+1) k):=by rw[(H8 hi).1,(H8 hi).2]
def H9{w x:List aD}{i k:Nat}(h:lj w x i)(hk:(bS x).2=true)(hi:k<=i) :
  cT dC w k (i-k)++[(nth (.int .i64) (bS x).1 0,nth (.int .i64) (bS x).1 1,nth (.int .i64) (bS x).1 2,())]=cT dC w k (i+1-k):=by
 rw[show i+1-k=(i-k)+1 by omega,Dr,H6 h hk];unfold ue;rw[show k+(i-k)=i by omega];rfl
def Ia{A:aD->Int}{w:List aD}{i a b:Nat}(h:i=a+b):(((nth .str w 0,dX A w (a8 i a),cT A w a (i-a),())):D aC)=Ge A w a b:=by
 rw[(H8 (i:=i) (k:=a) (by omega)).1,show i-a=b by omega];rfl
def No{A:aD->Int}{w:List aD}{n:Nat}{x:D aG}(h:n<=100):(dX A w n).length+ [x].length<=1000000000:=by rw[zR,da];omega
def P4{A:aD->Int}{w:List aD}{k n:Nat}{x:D aR}(h:n<=100):(cT A w k n).length+ [x].length<=1000000000:=by rw[vT,da];omega
def J7{A:aD->Int}{w:List aD}{i k:Nat}{x:D aG}(h:k<=100):(dX A w (a8 i k)).length+ [x].length<=1000000000:=No (b5 (Nat.min_le_right i k) h)
def vm{e:D aC}(h:(dG e).2.isNil=true):bB e=0/\(dG e).1=fS e:=by
 have hf:bB e=0:=by
  apply aq;intro hf;unfold dG at h;rw[if_pos hf]at h;exact hf (aP.1 h)
 exact⟨hf,by unfold dG;rw[if_neg (not_not_intro hf)]⟩
def Np{e:D aC}(h:(dG e).2.isNil=true):(dG e).1.length<=2753:=by
 obtain⟨hf,ht⟩:=vm h;rw[ht];unfold fS;have:=(lG hf).AI e.2.2.1.length;rw[aw];unfold re;simp;omega
section
variable{s:aD}
end
def Ib(e:D aC):(dG e).2=aI (bB e):=by
 unfold dG;split
 ·rfl
 ·next h=>rw[Classical.not_not.1 h];rfl
end Go.Mrl

namespace Go.Vg
open Go.RowKit
def mM(F:Fence):Prop:=F=bd\/∃l,F=bd.inRound l
def mq(ds:List Deferred)(a:Act):Act:={a with defers:=ds}
def rr(ds:List Deferred)(a:Act)(d:Option Tmp)(v:Value):(mq ds a).put d v=mq ds (a.put d v):=by cases d <;> rfl
def Ic(ds:List Deferred)(a:Act):(mq ds a).eval=a.eval:=by funext x;cases x <;> rfl
def Ie(ds:List Deferred)(a:Act):(mq ds a).tmps=a.tmps:=rfl
def put_defers(a:Act)(d:Option Tmp)(v:Value):(a.put d v).defers=a.defers:=by cases d <;> rfl
section
variable{P:Program}{F:Fence}{n:Nat}
def mM.fn(h:mM F)(f:FuncId):F.fn f:=by rcases h with rfl|⟨l,rfl⟩ <;> trivial
def mM.deep(h:mM F):¬F.depth.isSome=true:=by rcases h with rfl|⟨l,rfl⟩ <;> simp[bd,Fence.inRound]
def mM.calls(h:mM F){f:FuncId}{args:Array Value}{w:World}{R:Ending->World->Prop}(hc:Calls P f args w R):CallsIn F n P f args w R:=by
 rcases h with rfl|⟨l,rfl⟩
 ·exact callsIn_wide.2 hc
 ·exact CallsIn.inRound l (callsIn_wide.2 hc)
def mM.rows(h:mM F){row:String}{args:Array Value}{w:World}{R:Value->World->Prop}(hc:Rows P row args w R):RowsIn F n P row args w R:=by
 have hs:∀{m m':Machine},Steps P m m'->StepsIn (Machine.fenced P F) P m m':=by
  rcases h with rfl|⟨l,rfl⟩
  ·exact stepsIn_wide.2
  ·exact fun hh=>stepsIn_wide.2 hh
 intro c cs _;obtain⟨v,w',r,s⟩:=hc c cs;exact⟨v,w',r,hs s⟩
structure vo (Q:Exit->Act->World->Prop):Prop where
 bare:∀e a w,Q e a w->a.defers=[]
 P5:∀c a w,¬Q (.panic c) a w
 out:¬LetsOut Q
variable{Q Q':Exit->Act->World->Prop}
def Ds(hQ:vo Q){o:Oper}{K:Act->World->Prop}(hK:∀a w,K a w->a.defers=[]){a:Act}{w:World}(h:o.wp P a w K Q):a.defers=[]:=by
 unfold Oper.wp at h;generalize (execOp a.eval o).run P w=r at h;cases r with
 |ok x w'=>
  cases x with
  |value v=>have:=hK _ _ h;rwa [put_defers]at this
  |skip=>have:=hK _ _ h;rwa [put_defers]at this
  |defer d=>have:=hK _ _ h;rw[put_defers]at this;cases this
  |enter f args=>
   obtain⟨e,w2,fr,hr,_⟩:=h [];cases e with
   |returned v=>have:=hK _ _ hr;rwa [put_defers]at this
   |panicked c=>exact absurd hr (hQ.P5 _ _ _)
   |outgrown=>exact absurd hr hQ.out
  |row row args=>
   obtain⟨v,w2,hr,_⟩:=h default [];have:=hK _ _ hr;rwa [put_defers]at this
  |_=>exact h.elim
 |halt x w'=>
  cases x with
  |panic v=>exact absurd h (hQ.P5 _ _ _)
  |_=>exact h.elim
def nK(o:Oper):Bool:=match o.op with
 |.defer _=>false
 |_=>true
def Nq{o:Oper}(h:nK o=true):∀c,o.op≠.defer c:=by
 intro c e;unfold nK at h;rw[e]at h;cases h
def Ut(hF:mM F)(hQ:vo Q){o:Oper}(hnd:nK o=true){K K':Act->World->Prop}{ds:List Deferred}(hK:∀a w,K a w->a.defers=[])(hK':∀a w,K a w->K' (mq ds a) w){a:Act}{w:World}
  (h:o.wp P a w K Q):o.wpIn F n P (mq ds a) w K' Q':=by
 refine⟨fun f _=>hF.fn f,?_⟩;rw[fq _ _ _ (Nq hnd),Ic];unfold Oper.wp at h;have hb:=Ds (P:=P) hQ hK (o:=o) (a:=a) (w:=w) h;generalize (execOp a.eval o).run P w=r at h;cases r with
 |ok x w'=>
  cases x with
  |value v=>simp only[cr,rr];exact hK' _ _ h
  |skip=>simp only[cr,rr];exact hK' _ _ h
  |defer d=>have:=hK _ _ h;rw[put_defers]at this;cases this
  |enter f args=>
   simp only[cr];refine⟨fun e=>absurd e hF.deep,hF.calls (Calls.mono h fun e w2 hr =>?_)⟩;cases e with
   |returned v=>simp only[rr];exact hK' _ _ hr
   |panicked c=>exact absurd hr (hQ.P5 _ _ _)
   |outgrown=>exact absurd hr hQ.out
  |row row args=>
   simp only[cr];refine⟨fun e=>absurd e hF.deep,hF.rows (Rows.mono h fun v w2 hr =>?_)⟩;simp only[rr];exact hK' _ _ hr
  |_=>exact h.elim
 |halt x w'=>
  cases x with
  |panic v=>exact absurd h (hQ.P5 _ _ _)
  |_=>exact h.elim
def xD(hQ:vo Q){ops:Array Oper}:∀(l:List Oper) (a:Act) (w:World),wpList P ops Q l a w->a.defers=[]
 |[],a,w,h=>hQ.bare _ _ _ h
 |o :: r,a,w,h=>by
  unfold wpList at h;split at h
  ·rcases h with h|⟨_,h⟩
   ·exact Ds hQ (fun a w h=>xD hQ r a w h) h
   ·exact absurd h hQ.out
  ·have:=xD hQ r _ _ h;rwa [put_defers]at this
def Dt(hF:mM F)(hQ:vo Q){ds:List Deferred}(hE:∀a w,Q .normal a w->Q' .normal (mq ds a) w){ops:Array Oper}:∀(l:List Oper) (_:l.all nK=true) (a:Act) (w:World),wpList P ops Q l a w->wpListIn F n P ops Q' l (mq ds a) w
 |[],_,a,w,h=>hE a w h
 |o :: r,hl,a,w,h=>by
  simp only[List.all_cons,af]at hl;unfold wpListIn;unfold wpList at h;rw[Ie];split
  ·rename_i hw
   rw[if_pos hw]at h;rcases h with h|⟨_,h⟩
   ·exact Ut hF hQ hl.1 (fun a w h=>xD hQ r a w h) (fun a w h=>Dt hF hQ hE r hl.2 a w h) h
   ·exact absurd h hQ.out
  ·rename_i hw
   rw[if_neg hw]at h;refine⟨fun f _=>hF.fn f,?_⟩;rw[rr];exact Dt hF hQ hE r hl.2 _ _ h
def P6(hQ:vo Q){ops:Array Oper}{i:Nat}{K:Act->World->Prop}(hK:∀a w,K a w->a.defers=[]){a:Act}{w:World}(h:wpOp P ops Q i K a w):a.defers=[]:=by
 unfold wpOp at h;split at h
 ·exact hK _ _ h
 ·split at h
  ·rcases h with h|⟨_,h⟩
   ·exact Ds hQ hK h
   ·exact absurd h hQ.out
  ·have:=hK _ _ h;rwa [put_defers]at this
def Ig(hQ:vo Q){ops:Array Oper}{md:fs}:∀(n:Nat) (L:Array Bool) (a:Act) (w:World),wpAny P md ops Q n L a w->a.defers=[]
 |0,_,_,_,h=>hQ.bare _ _ _ h.2
 |n+1,L,a,w,h=>by
  cases hr:Region.ready md ops L with
  |nil=>exact hQ.bare _ _ _ (h.1 hr)
  |cons i r=>exact P6 hQ (fun a w h=>Ig hQ n _ a w h) (h.2 i (by rw[hr];simp))
def Vd(hF:mM F)(hQ:vo Q){ops:Array Oper}(hl:ops.toList.all nK=true){ds:List Deferred}{i:Nat}{K K':Act->World->Prop}(hK:∀a w,K a w->a.defers=[])(hK':∀a w,K a w->K' (mq ds a) w){a:Act}{w:World}
  (h:wpOp P ops Q i K a w):wpOpIn F n P ops Q' i K' (mq ds a) w:=by
 unfold wpOpIn;unfold wpOp at h;split
 ·rename_i hi;simp only[hi]at h;exact hK' _ _ h
 ·rename_i o hi
  simp only[hi]at h;have ho:nK o=true:=ca.1 hl o (by rw[<-Array.getElem?_toList]at hi;exact br hi);rw[Ie];split
  ·rename_i hw
   rw[if_pos hw]at h;rcases h with h|⟨_,h⟩
   ·exact Ut hF hQ ho hK hK' h
   ·exact absurd h hQ.out
  ·rename_i hw
   rw[if_neg hw]at h;refine⟨fun f _=>hF.fn f,?_⟩;rw[rr];exact hK' _ _ h
def P7(hF:mM F)(hQ:vo Q){ds:List Deferred}(hE:∀a w,Q .normal a w->Q' .normal (mq ds a) w){ops:Array Oper}(hl:ops.toList.all nK=true){md:fs}:∀(k:Nat) (L:Array Bool) (a:Act) (w:World),wpAny P md ops Q k L a w->wpAnyIn F n P md ops Q' k L (mq ds a) w
 |0,_,_,_,h=>⟨h.1,hE _ _ h.2⟩
 |k+1,L,a,w,h=>⟨fun e=>hE _ _ (h.1 e),fun i hi=>Vd hF hQ hl (fun a w h=>Ig hQ k _ a w h) (fun a w h=>P7 hF hQ hE hl k _ a w h) (h.2 i hi)⟩
end
def kD:Code->Bool
 |.skip=>true
 |.region _ ops _=>ops.toList.all nK
 |.seq a b=>kD a&&kD b
 |.cond _ a b=>kD a&&kD b
 |.block _ b=>kD b
 |.exit _=>true
 |.ret=>true
 |_=>false
section
variable{X:Ext}{P:Program}{cx:Cx}{F:Fence}{n:Nat}
def zW(ds:List Deferred)(Q:Exit->Act->World->Prop):Exit->Act->World->Prop:=fun e a w=>∃a',a=mq ds a'/\a'.defers=[]/\Q e a' w
def AU{O:aH}{K:Ex->St->VC}{W:List Nat}{st:St}{S:bI}:vo (jy cx X O K W st S) where
 bare e a w h:=by
  cases e with
  |normal=>obtain⟨_,_,_,_,_,k,_⟩:=h;exact k.defers
  |exit i=>obtain⟨_,_,_,_,_,k,_⟩:=h;exact k.defers
  |ret=>obtain⟨_,_,_,_,_,k,_⟩:=h;exact k.defers
  |goto l=>exact h.elim
  |panic c=>exact h.elim
  |outgrown=>exact h.elim
 P5 c a w h:=h.elim
 out h:=let⟨_,_,hh⟩:=h;hh.elim
def jy.on{O:aH}{K:Ex->St->VC}{W:List Nat}{st:St}{S:bI}{ds:List Deferred}{e:Exit}{a:Act}{w:World}(h:jy cx X O K W st S e a w):zW ds (jy cx X O K W st S) e (mq ds a) w:=⟨a,rfl,AU.bare _ _ _ h,h⟩
def Wx(hok:lq P cx X)(hF:mM F)(ds:List Deferred){O:aH}{id:Nat}{ops:Array Oper}{draw:Bool}(hl:ops.toList.all nK=true){st:St}{loc:Nat->Loc}{w:World}{a:Act}{K:Ex->St->VC}(hA:fQ cx (aA O st loc w) st a)(g:Good cx.eT X (aA O st loc w))(hO:eS O w)
  (h:(yk cx ops draw st (K .normal)).holds):(Code.region id ops draw).wpIn F n P (zW ds (jy cx X O K (dV ops.toList) st (aA O st loc w))) (mq ds a) w:=by
 have hW:∀(j:Nat) (oj:Oper) (d:Nat),ops[j]?=some oj->oj.dst=some d->d∈dV ops.toList:=by
  intro j oj d hj hd;exact eh.2 ⟨oj,by rw[<-Array.getElem?_toList]at hj;exact br hj,hd⟩
 have hq:∀st' loc' a' w',(K .normal st').holds->Good cx.eT X (aA O st' loc' w')->Tr (aA O st loc w) (aA O st' loc' w')->fQ cx (aA O st' loc' w') st' a'->nx (dV ops.toList) st st'->
   jy cx X O K (dV ops.toList) st (aA O st loc w) .normal a' w':=fun st' loc' a' w' h1 h2 h3 h4 h5=>⟨st',loc',h1,h2,h3,h4,h5⟩
 unfold yk at h;cases draw with
 |false=>
  refine wpIn_region_list (Dt hF AU (fun a w h=>h.on) _ hl _ _ ?_);exact yP hok hW ops.toList (fun o ho d hd=>eh.2 ⟨o,ho,hd⟩) hA g hO h hq
 |true=>
  split at h
  ·rename_i e;cases e
  ·rename_i e
   split at h
   ·rename_i hreg
    rw[KU]at h;refine wpIn_region_any hok.mixed (P7 hF AU (fun a w h=>h.on) hl _ _ _ _ (C7 (loud:=kn cx ops.toList) _ _ _ _ (aA O st loc {w with drawn:=w.drawn+1}).A ?_));have hdrew:Below w.heap.size w {w with drawn:=w.drawn+1}:=⟨rfl,rfl,ak _,fun _ _=>rfl⟩;obtain⟨tr,g'⟩:=o4 (S:=aA O st loc w) (S':=aA O st loc {w with drawn:=w.drawn+1}) g rfl rfl rfl rfl hdrew;refine yQ hok hW hreg (fun c a w h=>h) ops.size _ ?_ ⟨hA.size,hA.defers,hA.env.tr tr⟩ g' (hO.tr (ak _)) h ?_
    ·intro j o ho hj
     rw[ei,Array.getElem?_replicate]at hj;split at hj <;> simp at hj
    ·intro st' loc' a' w' h1 h2 h3 h4 h5
     obtain⟨st2,loc2,k1,k2,k3,k4,k5⟩:=fY.Xc (K:=K .normal) (f:=canon st.next (dV ops.toList)) (W:=dV ops.toList) hA (fun st'=>by
      rcases BJ st.next (dV ops.toList) st' with e|⟨r,q,k1,k2⟩
      ·exact .inl e
      ·exact .inr ⟨r,q,k1,k2⟩) (⟨st',loc',h1,h2,tr.trans h3,h4,h5⟩:fY cx X O (fun st'=>K .normal (canon st.next (dV ops.toList) st')) (dV ops.toList) st (aA O st loc w) a' w')
     exact hq st2 loc2 a' w' k1 k2 k3 k4 k5
   ·exact h.elim
def zW.mono{ds:List Deferred}{Q Q':Exit->Act->World->Prop}(h:∀e a w,Q e a w->Q' e a w){e:Exit}{a:Act}{w:World}(hq:zW ds Q e a w):zW ds Q' e a w:=let⟨a',k1,k2,k3⟩:=hq;⟨a',k1,k2,h _ _ _ k3⟩
def xE(hok:lq P cx X)(hF:mM F)(ds:List Deferred){O:aH}:∀(c:Code) (cur:Nat) (_:kD c=true) {st:St} {loc:Nat->Loc} {w:World} {a:Act} {K:Ex->St->VC},
  fQ cx (aA O st loc w) st a->Good cx.eT X (aA O st loc w)->eS O w->(vc cx [] c cur st K).holds->c.wpIn F n P (zW ds (jy cx X O K (writes [] cur c) st (aA O st loc w))) (mq ds a) w:=by
 intro c;induction c with
 |skip=>intro cur _ st loc w a K hA g hO h;exact wpIn_skip (jy.on ⟨st,loc,h,g,Tr.refl _,hA,fun _ _ _ _ h=>h⟩)
 |region id ops draw=>
  intro cur hs st loc w a K hA g hO h;exact Wx hok hF ds hs hA g hO h
 |seq c1 c2 ih1 ih2=>
  intro cur hs st loc w a K hA g hO h;simp only[kD,af]at hs;refine wpIn_seq ?_;refine wpIn_mono (ih1 cur hs.1 hA g hO h) ?_;rintro e a0 w' ⟨a',rfl,hb,hq⟩;have key:∀e,e≠.normal->jy cx X O (fun e st'=>match e with
   |.normal=>vc cx [] c2 cur st' K
   |e=>K e st') (writes [] cur c1) st (aA O st loc w) e a' w'->zW ds (jy cx X O K (writes [] cur (.seq c1 c2)) st (aA O st loc w)) e (mq ds a') w':=by
   intro e he hq;refine jy.on (jy.mono (W:=writes [] cur c1) (st1:=st) (S1:=aA O st loc w) ?_ (Tr.refl _) (fun _ _ _ _ h=>h) (fun n hn=>au.2 (.inl hn)));cases e with
   |normal=>exact absurd rfl he
   |exit i=>exact hq
   |ret=>exact hq
   |goto l=>exact hq.elim
   |panic c=>exact hq.elim
   |outgrown=>exact hq.elim
  cases e with
  |normal=>
   obtain⟨st',loc',k1,k2,k3,k4,k5⟩:=hq;refine wpIn_mono (ih2 cur hs.2 k4 k2 (hO.tr k3.size) k1) ?_;intro e a2 w2 hq2;exact hq2.mono fun e a w hq=>hq.mono k3 (W':=writes [] cur (.seq c1 c2)) (fun hm t ht=>k5 (fun h=>hm (au.2 (.inl h))) t fun hm=>ht (au.2 (.inl hm))) (fun n hn=>au.2 (.inr hn))
  |exit i=>exact key _ (by simp) hq
  |ret=>exact key _ (by simp) hq
  |goto l=>exact hq.elim
  |panic c=>exact hq.elim
  |outgrown=>exact hq.elim
 |cond x c1 c2 ih1 ih2=>
  intro cur hs st loc w a K hA g hO h;simp only[kD,af]at hs;have hx:=bL hA.env x;have h1:∀{K},(vc cx [] c1 cur st K).holds->c1.wpIn F n P (zW ds (jy cx X O K (writes [] cur (.cond x c1 c2)) st (aA O st loc w))) (mq ds a) w:=fun h=>
   wpIn_mono (ih1 cur hs.1 hA g hO h) fun e a' w' hq=>hq.mono fun e a w hq=>hq.mono (Tr.refl _) (fun _ _ _ _ h=>h) (fun n hn=>au.2 (.inl hn))
  have h2:∀{K},(vc cx [] c2 cur st K).holds->c2.wpIn F n P (zW ds (jy cx X O K (writes [] cur (.cond x c1 c2)) st (aA O st loc w))) (mq ds a) w:=fun h=>
   wpIn_mono (ih2 cur hs.2 hA g hO h) fun e a' w' hq=>hq.mono fun e a w hq=>hq.mono (Tr.refl _) (fun _ _ _ _ h=>h) (fun n hn=>au.2 (.inr hn))
  have hev:(mq ds a).eval x=a.eval x:=by rw[Ic]
  have h':(match eA st.env x with
    |.lit true=>vc cx [] c1 cur st K
    |.lit false=>vc cx [] c2 cur st K
    |.d .bool g =>.ite g (vc cx [] c1 cur st K) (vc cx [] c2 cur st K)
    |_ =>.ff).holds:=h
  split at h'
  ·rename_i hl;rw[hl]at hx;exact wpIn_cond_true (hev.trans hx) (h1 h')
  ·rename_i hl;rw[hl]at hx;exact wpIn_cond_false (hev.trans hx) (h2 h')
  ·rename_i b hl
   rw[hl]at hx;have hx:=(eO (eT:=cx.eT) (S:=aA O st loc w) (b:=b)).1 hx;cases b
   ·exact wpIn_cond_false (hev.trans hx) (h2 (h'.2 rfl))
   ·exact wpIn_cond_true (hev.trans hx) (h1 (h'.1 rfl))
  ·exact h'.elim
 |block id b ih=>
  intro cur hs st loc w a K hA g hO h;refine wpIn_block ?_;have h':(vc cx [] b id st fun e st'=>match e with
   |.exit i=>match bp i id with
    |true=>K .normal st'
    |false=>K (.exit i) st'
   |e=>K e st').holds:=h
  refine wpIn_mono (ih id hs hA g hO h') ?_;rintro e a0 w' ⟨a',rfl,hb,hq⟩;cases e with
  |normal=>exact jy.on hq
  |exit i=>
   obtain⟨st',loc',k1,k2,k3,k4,k5⟩:=hq;simp only at k1;show if i=id then _ else _
   split at k1
   ·rename_i hi
    rw[if_pos (bz hi)];exact jy.on ⟨st',loc',k1,k2,k3,k4,k5⟩
   ·rename_i hi
    rw[if_neg (fun e=>by rw[e,Nat.beq_refl]at hi;cases hi)];exact jy.on ⟨st',loc',k1,k2,k3,k4,k5⟩
  |ret=>exact jy.on hq
  |goto l=>exact hq.elim
  |panic c=>exact hq.elim
  |outgrown=>exact hq.elim
 |exit id=>intro cur _ st loc w a K hA g hO h;exact wpIn_exit (jy.on ⟨st,loc,h,g,Tr.refl _,hA,fun _ _ _ _ h=>h⟩)
 |ret=>intro cur _ st loc w a K hA g hO h;exact wpIn_ret (jy.on ⟨st,loc,h,g,Tr.refl _,hA,fun _ _ _ _ h=>h⟩)
 |_=>intro cur hs;cases hs
end
structure r6 (B:Nat) (W W':World):Prop where
 os:W'.os=W.os
 output:W'.output=W.output
 size:W.heap.size<=W'.heap.size
 below:∀k,k<B->k<W.heap.size->W'.heap[k]?=W.heap[k]?
 cells:∀(k:Nat) (o:Obj),W.heap[k]?=some o->o.isCells=true->W'.heap[k]?=W.heap[k]?
def r6.of{B:Nat}{W W':World}{row:Option Nat}(hg:W.grownBy W' row)(hr:∀r,row=some r->B<=r/\∃o:Obj,W.heap[r]?=some o/\o.isCells=false):r6 B W W':=
 ⟨hg.os,hg.output,hg.size,fun k h1 h2=>hg.block k h2 (fun e=>by have:=(hr k e.symm).1;omega),fun k o hk hc=>grownBy_keeps_cells hg (fun r e=>(hr r e).2) hk hc⟩
def r6.cell{B:Nat}{W W':World}(h:r6 B W W'){b o:Nat}{v:Value}(hc:W.cell? ⟨b,o,none⟩=some v):W'.cell? ⟨b,o,none⟩=some v:=by
 obtain⟨ob,ho,hcs⟩:=cells_of_cell hc;exact(World.cell?_of_block (h.cells _ ob ho hcs)).trans hc
def plainO:OC->Bool
 |.cells _ _=>true
 |.aU _ _=>true
 |.arr _ _=>true
 |.tok _ _=>true
 |.ext k _ _=>bp k 0 || bp k 2
 |.iter _ _ _=>false
def oe:List (Nat×OC)->Bool
 |[]=>true
 |(_,oc) :: r=>plainO oc&&oe r
def mB:∀{l:List (Nat×OC)},oe l=true->∀{n:Nat} {oc:OC},look l n=some oc->plainO oc=true
 |[],_,_,_,h=>by simp[look]at h
 |(m,x) :: r,hp,n,oc,h=>by
  simp only[oe,af]at hp;rw[cC]at h;split at h
  ·cases h;exact hp.1
  ·exact mB hp.2 h
section
variable{eT:TypeId}{X:Ext}
def CR.ma{S S':bI}(hob:S'.ob=S.ob)(hloc:S'.loc=S.loc)(hn:S'.next=S.next)(hc:∀b o v,¬S.A b o->S.w.cell? ⟨b,o,none⟩=some v->S'.w.cell? ⟨b,o,none⟩=some v/\¬S'.A b o)
  {c:C}{v:Value}(h:CR eT S c v):CR eT S' c v:=by
 cases c with
 |d t x=>exact VR.frame h hc
 |app t xs n=>obtain⟨h1,h2,h3⟩:=h;exact⟨VR.frame h1 hc,by rw[hn];exact h2,by rw[hob,hloc];exact h3⟩
 |oD t x=>obtain⟨b,o,us,rfl,h1,h2⟩:=h;exact⟨b,o,us,rfl,h1.frame hc,h2.frame hc⟩
 |fn f caps=>simp only[CR,bI.fixed,hob,hloc,hn]at h ⊢;exact h
 |_=>simp only[CR,hob,hloc,hn]at h ⊢ <;> exact h
def eD.ma{S S':bI}(hob:S'.ob=S.ob)(hloc:S'.loc=S.loc)(hn:S'.next=S.next)(hc:∀b o v,¬S.A b o->S.w.cell? ⟨b,o,none⟩=some v->S'.w.cell? ⟨b,o,none⟩=some v/\¬S'.A b o)
  {cs:List C}{vs:List Value}(h:eD eT S cs vs):eD eT S' cs vs:=by
 induction h with
 |nil=>exact .nil
 |cons h1 h2 _ ih=>exact .cons (h1.ma hob hloc hn hc) h2 ih
def ir.ma{S S':bI}(hob:S'.ob=S.ob)(hloc:S'.loc=S.loc)(hn:S'.next=S.next)(hc:∀b o v,¬S.A b o->S.w.cell? ⟨b,o,none⟩=some v->S'.w.cell? ⟨b,o,none⟩=some v/\¬S'.A b o)
  {x:cO}{v:Value}(h:ir eT S x v):ir eT S' x v:=by
 cases x with
 |one c=>exact CR.ma hob hloc hn hc h
 |agg cs=>obtain⟨vs,rfl,h1⟩:=h;exact⟨vs,rfl,h1.ma hob hloc hn hc⟩
def cP.ma{S S':bI}(hob:S'.ob=S.ob)(hloc:S'.loc=S.loc)(hn:S'.next=S.next)(hc:∀b o v,¬S.A b o->S.w.cell? ⟨b,o,none⟩=some v->S'.w.cell? ⟨b,o,none⟩=some v/\¬S'.A b o)
  {xs:List cO}{vs:List Value}(h:cP eT S xs vs):cP eT S' xs vs:=by
 induction h with
 |nil=>exact .nil
 |cons h1 _ ih=>exact .cons (h1.ma hob hloc hn hc) ih
def dI.ma{S S':bI}(hob:S'.ob=S.ob)(hloc:S'.loc=S.loc)(hn:S'.next=S.next)(hc:∀b o v,¬S.A b o->S.w.cell? ⟨b,o,none⟩=some v->S'.w.cell? ⟨b,o,none⟩=some v/\¬S'.A b o)
  {x:SV}{v:Value}(h:dI eT S x v):dI eT S' x v:=by
 cases x with
 |s x=>exact ir.ma hob hloc hn hc h
 |mN xs=>obtain⟨vs,rfl,h1⟩:=h;exact⟨vs,rfl,h1.ma hob hloc hn hc⟩
def OR.ma{S S':bI}(hob:S'.ob=S.ob)(hloc:S'.loc=S.loc)(hn:S'.next=S.next)(hc:∀b o v,¬S.A b o->S.w.cell? ⟨b,o,none⟩=some v->S'.w.cell? ⟨b,o,none⟩=some v/\¬S'.A b o)
  {l:Loc}{oc:OC}(hb:∀b,b∈l.bs->S'.w.heap[b]?=S.w.heap[b]?)(ho:OR eT X S l oc):OR eT X S' l oc:=by
 have he:∀{t:Ty} {xs:List (D t)} {vs:Array Value},kI eT S t xs vs->kI eT S' t xs vs:=fun h i y hy=>let⟨us,h1,h2⟩:=h i y hy;⟨us,h1.frame hc,h2⟩
 cases oc with
 |cells T cs=>
  obtain⟨b,vs,h1,h2,h3,h4⟩:=ho;exact⟨b,vs,h1,h2,by rw[hb b (by simp[h2])];exact h3,h4.ma hob hloc hn hc⟩
 |aU t xs=>
  rcases ho with ho|⟨b,vs,T,cap,h1,h2,h3,h4,h5,h6,h7⟩
  ·exact .inl ho
  ·exact .inr ⟨b,vs,T,cap,h1,h2,by rw[hb b (by simp[h2])];exact h3,h4,h5,h6,he h7⟩
 |arr t xs=>
  obtain⟨b,vs,T,h1,h2,h3,h4,h5⟩:=ho;exact⟨b,vs,T,h1,h2,by rw[hb b (by simp[h2])];exact h3,h4,he h5⟩
 |tok t xs=>
  rcases ho with ho|⟨b,vs,T,cap,h1,h2,h3,h4,h5,h6,h7⟩
  ·exact .inl ho
  ·exact .inr ⟨b,vs,T,cap,h1,h2,by rw[hb b (by simp[h2])];exact h3,h4,h5,h6,he h7⟩
 |ext k t x=>exact X.frame ho hb
 |iter cs seen cl=>
  obtain⟨b,m,c,sn,h1,h2,h3,h4,h5,h6⟩:=ho;exact⟨b,m,c,sn,h1,h2,by rw[hb b (by simp[h2])];exact h3,h4.ma hob hloc hn hc,h5,h6⟩
def OR.P8{S:bI}{l:Loc}{oc:OC}(hp:plainO oc=true)(ho:OR eT X S l oc):∀b∈l.bs,∃vs T fz,S.w.heap[b]?=some (.cells vs T fz):=by
 intro b hb;cases oc with
 |cells T cs=>obtain⟨b',vs,_,h2,h3,_⟩:=ho;rw[h2]at hb;simp at hb;subst hb;exact⟨_,_,_,h3⟩
 |aU t xs=>
  rcases ho with⟨_,_,h⟩|⟨b',vs,T,cap,_,h2,h3,_⟩
  ·rw[h]at hb;simp at hb
  ·rw[h2]at hb;simp at hb;subst hb;exact⟨_,_,_,h3⟩
 |arr t xs=>obtain⟨b',vs,T,_,h2,h3,_⟩:=ho;rw[h2]at hb;simp at hb;subst hb;exact⟨_,_,_,h3⟩
 |tok t xs=>
  rcases ho with⟨_,_,h⟩|⟨b',vs,T,cap,_,h2,h3,_⟩
  ·rw[h]at hb;simp at hb
  ·rw[h2]at hb;simp at hb;subst hb;exact⟨_,_,_,h3⟩
 |ext k t x=>
  simp only[plainO,bq]at hp;rcases hp with hp|hp
  ·have:=bz hp
   subst this;have hd:kH t x l S.w:=X.deep.1 ho;cases t with
   |slice e=>
    obtain⟨s,_,top,hs,_,⟨_,_,_,h⟩|⟨b',vs,T,cap,cs,_,h2,h3,_,_,_,h4⟩⟩:=hd
    ·rw[h]at hb;simp at hb
    ·rw[h2]at hb
     rcases ag.1 hb with rfl|hb
     ·exact⟨_,_,_,h3⟩
     ·obtain⟨c,hc,hcb⟩:=eh.1 hb
      simp at hcb;subst hcb;obtain⟨i,hi⟩:=List.getElem?_of_mem hc;obtain⟨_,vs',T',h5⟩:=h4.yG i b hi;exact⟨_,_,_,h5⟩
   |_=>exact hd.elim
  ·have:=bz hp
   subst this;obtain⟨rfl,b',p,v,h⟩:=X.Oj.1 ho;rw[h.bs]at hb;rcases ag.1 hb with rfl|hb
   ·exact⟨_,_,_,h.heap⟩
   ·rcases h.row.2 with⟨rfl,_⟩|⟨g,cap,cur,rfl,_,hg,_⟩
    ·simp[ft]at hb
    ·simp[ft]at hb;subst hb;exact⟨_,_,_,hg⟩
 |iter cs seen cl=>cases hp
def xF{S:bI}{W':World}{B:Nat}(g:Good eT X S)(hb:r6 B S.w W')(hp:∀n oc,S.ob n=some oc->plainO oc=true)(hg:∀b∈X.DO,b<B):Good eT X {S with w:=W'} where
 obj n oc h:=⟨(g.obj n oc h).1,OR.ma (S:=S) (S':={S with w:=W'}) rfl rfl rfl (fun b o v ha hc=>⟨hb.cell hc,ha⟩) (fun b hbm=>let⟨_,_,_,e⟩:=(g.obj n oc h).2.P8 (hp n oc h) b hbm;hb.cells b _ e rfl) (g.obj n oc h).2⟩
 apart:=g.apart
 out:=g.out
 kW:=⟨X.Bk g.kW.1 fun b hbm=>hb.below b (hg b hbm) (X.Gi g.kW.1 b hbm),g.kW.2⟩
def Du{S0 S:bI}{W':World}{B:Nat}(t:Tr S0 S)(hb:r6 B S.w W')(hB:S0.w.heap.size<=B):Tr S0 {S with w:=W'} where
 O:=t.O
 next:=t.next
 os:=hb.os.trans t.os
 output:=hb.output.trans t.output
 size:=b5 t.size hb.size
 own:=t.own
 cell b o v ha hc:=let⟨h1,h2⟩:=t.cell b o v ha hc;⟨hb.cell h1,h2⟩
 block b hlt ho:=(hb.below b (de hlt hB) (de hlt t.size)).trans (t.block b hlt ho)
 loc:=t.loc
 kind:=t.kind
def AV{S:bI}{W':World}{B:Nat}{env:List (Nat×SV)}{a:Act}(h:gz eT S env a)(hb:r6 B S.w W'):gz eT {S with w:=W'} env a:=
 fun t sv ht=>dI.ma (S:=S) (S':={S with w:=W'}) rfl rfl rfl (fun b o v ha hc=>⟨hb.cell hc,ha⟩) (h t sv ht)
def EX{S:bI}(g:Good eT X S)(hp:∀n oc,S.ob n=some oc->plainO oc=true){k:Nat}{o:Obj}(hk:S.w.heap[k]?=some o)(ho:o.isCells=false):¬S.owns k:=by
 rintro⟨n,oc,h1,h2⟩;obtain⟨vs,T,fz,e⟩:=(g.obj n oc h1).2.P8 (hp n oc h1) k h2;rw[hk]at e;cases e;cases ho
end
def vp:List Ob->List Nat->List Nat->Bool
 |o :: os,n0 :: ns0,n :: ns=>(match lg o o with|true=>bp n n0|false=>true)&&vp os ns0 ns
 |_,_,_=>true
def EY:∀{aN:List Ob} {ν0 ν:List Nat} {i n0 n:Nat} {o:Ob},vp aN ν0 ν=true->aN[i]?=some o->lg o o=true->ν0[i]?=some n0->ν[i]?=some n->n=n0
 |[],_,_,_,_,_,_,_,h,_,_,_=>by simp at h
 |_ :: _,[],_,_,_,_,_,_,_,_,h,_=>by simp at h
 |_ :: _,_ :: _,[],_,_,_,_,_,_,_,_,h=>by simp at h
 |a :: os,m0 :: ns0,m :: ns,0,n0,n,o,h,h1,h2,h3,h4=>by
  simp at h1 h3 h4;subst h1;subst h3;subst h4;simp only[vp,h2,af]at h;exact bz h.1
 |a :: os,m0 :: ns0,m :: ns,i+1,n0,n,o,h,h1,h2,h3,h4=>by
  simp only[vp,af]at h;exact EY h.2 (by simpa using h1) h2 (by simpa using h3) (by simpa using h4)
def Ct(an:jm)(ν0:List Nat)(st st':St)(more:an.X->Prop):VC:=
 match tO st' an with
 |some ν=>match nodupB ν&&(tP st' an ν an.refs&&vp an.aN ν0 ν),eE false st'.aF an.aN ν an.aN ν with
  |true,some y =>.leaf (GX (yi st' an y an.refs++iM an.aN y st'.aF an.aN ν++[∃x',an.inv x'/\more x'/\mh st' (an.bM x')/\mi st' (an.aF x'++iy st an.gP)/\(oT ν (ph an st x')=true/\y=an.pd x')]))
  |_,_ =>.ff
 |none =>.ff
def Cu{an:jm}{ν0:List Nat}{st st':St}{more:an.X->Prop}(h:(Ct an ν0 st st' more).holds):∃x,an.inv x/\more x/\∃ν,G4 an st st' x ν/\vp an.aN ν0 ν=true:=by
 unfold Ct at h;split at h
 ·rename_i ν _
  split at h
  ·rename_i y hc hy
   simp only[af]at hc;have hall:=uJ h;obtain⟨x,h1,h2,h3,h4,h5,h6⟩:=hall (∃x',an.inv x'/\more x'/\mh st' (an.bM x')/\mi st' (an.aF x'++iy st an.gP)/\(oT ν (ph an st x')=true/\y=an.pd x')) (ej _ (db.2 rfl));subst h6;obtain⟨k1,_⟩:=jf.1 hall;obtain⟨k1,k2⟩:=jf.1 k1;exact⟨x,h1,h2,ν,⟨hc.1,hc.2.1,hy,k1,k2,h3,h4,h5⟩,hc.2.2⟩
  ·exact h.elim
 ·exact h.elim
section
variable{X:Ext}{cx:Cx}
end
structure lH:Type 1 where
 inv:List Nat->Prop
 keep:List Nat
 gP:List Nat:=[]
 gQ:List Nat:=[]
 aN:List Ob:=[]
 refs:List (Nat×Nat):=[]
 pd:List Nat->PD aN:=fun _=>Mg aN
def lH.xG(r:lH):jm:={X:=List Nat,inv:=r.inv,cD:=fun _=>0,bM:=fun _=>[],keep:=r.keep,gP:=r.gP,aN:=r.aN,refs:=r.refs,pd:=r.pd}
def Wy(r:lH)(ν0:List Nat)(st:St):List Nat:=mF r.aN r.aN ν0 st.next
def gH(r:lH)(ν0:List Nat)(st:St)(pre:List Nat):St:=eZ r.xG st (Wy r ν0 st) pre
def qH(r:lH)(ν0:List Nat)(st:St)(pre:List Nat):Bool:=pj r.xG st [] pre&&(oe (gH r ν0 st pre).aF&&(nodupB (Wy r ν0 st)&&jY (st.next+r.aN.length) (Wy r ν0 st)))
def eH{t:Ty}(xs:List (D t))(k i:Nat):List (D t):=(xs.drop (i*k)).take k
def fM(n k:Nat):Nat:=(n+k-1) / k
def kx(a:Option Addr)(n k i:Nat):Value:=.slice (a.map fun p=>{p with off:=p.off+i*k}) (min k (n-i*k)) (min k (n-i*k))
def yy(ps:List Tmp)(asg:Code):Option (Nat×Nat):=
 match ps,asg with
 |[p],.region _ ops false=>match ops.toList with
  |[o]=>match o.dst,o.op,o.guard with
   |some d,.assign (.tmp q),none=>match bp q p with
    |true=>some (p,d)
    |false=>none
   |_,_,_=>none
  |_=>none
 |_,_=>none
def Uu(st:St)(r:lH):lH:={r with keep:=(BL st.env r.keep).filter (fun t=>qz [t] r.refs),gP:=match r.gP with
 |[]=>qy (r.gQ++(match tO st r.xG with|some l=>l|none=>[])) st.aF
 |l=>l}
@[reducible] def Li:Ty:=.slice (.int .u8)
def Gf(an:lH)(ν0:List Nat)(st1:St)(bs:List (D (.int .u8)))(kN p d:Nat)(pre:List Nat)(i:Nat):St:=
 {gH an ν0 st1 pre with env:=(d,.s (.one (.d Li (eH bs kN i)))) :: (p,.s (.one (.d Li (eH bs kN i)))) :: (gH an ν0 st1 pre).env}
def rK(an:lH)(ν0:List Nat)(st1:St)(K:Ex->St->VC)(pre:List Nat)(i:Nat):Ex->St->VC:=fun e st'=>match e with
 |.normal=>Ct an.xG ν0 st1 {st' with env:=(gH an ν0 st1 pre).env} fun x=>x=pre++[i]
 |.ret=>match oe st'.aF with
  |true =>.imp (pre=ba i) (K .ret {st' with env:=(gH an ν0 st1 pre).env})
  |false =>.ff
 |.exit _ =>.ff
def Uv(cx:Cx)(an:lH)(st1:St)(bs:List (D (.int .u8)))(k:Int)(p d:Nat)(body:Code)(K:Ex->St->VC):VC:=
 match tO st1 an.xG with
 |some ν0 =>.both (.leaf (1<=k/\k<=1000000000/\bs.length<=1000000000))
  (.both (Ct an.xG ν0 st1 st1 fun x=>x=[]) (.both (.all (List Nat) fun pre =>.imp (an.inv pre) (match qH an ν0 st1 pre with
    |true =>.all Nat fun i =>.imp (pre.length<fM bs.length k.toNat)
     (vc cx [] body 0 (Gf an ν0 st1 bs k.toNat p d pre i) (rK an ν0 st1 K pre i))
    |false =>.ff))
   (.imp (an.inv (ba (fM bs.length k.toNat))) (K .normal (gH an ν0 st1 (ba (fM bs.length k.toNat)))))))
 |none =>.ff
def SZ(cx:Cx)(it:FuncId)(r:St->lH)(g:Operand)(p d:Nat)(body:Code)(st:St)(K:Ex->St->VC):VC:=
 match eA st.env g with
 |.fn f [n1,n2]=>match bp f it&&!bp n1 n2,look st.aF n1,look st.aF n2 with
  |true,some (.cells _ [.d (.slice (.int .u8)) bs]),some (.cells _ [.d (.int .i64) k])=>
   Uv cx (Uu (bA (bA st n1) n2) (r (bA (bA st n1) n2))) (bA (bA st n1) n2) bs k p d body K
  |_,_,_ =>.ff
 |_ =>.ff
def uf(P:Program)(it:FuncId):Prop:=
 ∀(b1 b2:Nat) (a:Option Addr) (len cap k:Nat) (w:World),1<=k->k<=1000000000->len<=1000000000->len<=cap->(0<len->∃b o,a=some ⟨b,o,none⟩)->b1<w.heap.size->b2<w.heap.size->w.cell? ⟨b1,0,none⟩=some (.slice a len cap)->w.cell? ⟨b2,0,none⟩=some (.int .i64 k)->
  SeqStopsK bd 2 P it #[.pointer (some ⟨b1,0,none⟩),.pointer (some ⟨b2,0,none⟩)] (fun i:Nat =>#[kx a len k i])
   (fun A B=>B.cell? ⟨b1,0,none⟩=A.cell? ⟨b1,0,none⟩/\B.cell? ⟨b2,0,none⟩=A.cell? ⟨b2,0,none⟩) (fun xs=>xs=ba (fM len k)) (fun pre=>∃j,pre=ba j) (fM len k) w
def rf{t:Ty}(xs:List (D t))(k i:Nat):(eH xs k i).length=min k (xs.length-i*k):=by simp[eH]
section
variable{eT:TypeId}{X:Ext}
def S3{bs:List (D (.int .u8))}{A:aH}{w:World}{v:Value}(h:VR eT Li bs A w v) :
  ∃a cap,v=.slice a bs.length cap/\bs.length<=cap/\(0<bs.length->∃b o,a=some ⟨b,o,none⟩)/\∀k i,VR eT Li (eH bs k i) A w (kx a bs.length k i):=by
 obtain⟨v',e,hbig,h⟩:=h.one rfl;cases e;rcases h with⟨rfl,a,c,rfl⟩|⟨b,o,cap,rfl,hc,h⟩
 ·refine⟨a,c,rfl,ar _,fun h=>absurd h (Nat.lt_irrefl _),fun k i=>VR.cH rfl ⟨_,rfl,by simp[eH],.inl ⟨by simp[eH],a.map fun p=>{p with off:=p.off+i*k},0,by simp[kx]⟩⟩⟩
 ·refine⟨some ⟨b,o,none⟩,cap,rfl,hc,fun _=>⟨b,o,rfl⟩,fun k i=>VR.cH rfl ⟨_,rfl,by rw[rf];omega,.inr ⟨b,o+i*k,min k (bs.length-i*k),by rw[rf];rfl,by rw[rf];exact ak _,fun j y hj =>?_⟩⟩⟩
  have hj':bs[i*k+j]?=some y:=by
   unfold eH at hj;rw[List.getElem?_take]at hj;split at hj
   ·rwa [List.getElem?_drop]at hj
   ·cases hj
  obtain⟨us,h1,h2⟩:=h _ y hj';refine⟨us,h1,fun m u hm =>?_⟩;have:=h2 m u hm;rw[show o+i*k+j*(Ty.int dm).size+m=o+(i*k+j)*(Ty.int dm).size+m by simp[Ty.size];omega];exact this
end
section
variable{P:Program}{F:Fence}{n:Nat}
def P9{K:Act->World->Prop}{id:Nat}{ops:Array Oper}{o:Oper}{d q:Nat}(ho:ops.toList=[o])(hd:o.dst=some d)(hop:o.op=.assign (.tmp q))(hg:o.guard=none){a:Act}{w:World}(hF:∀f,F.fn f)
  (h:K (a.put (some d) (a.eval (.tmp q))) w):(Code.region id ops false).wpIn F n P (Exit.then K (fun _ _ _=>False)) a w:=by
 refine wpIn_region_list ?_;rw[ho];unfold wpListIn;rw[if_pos (by simp[Region.wanted,hg])];refine⟨fun f _=>hF f,?_⟩;rw[fq _ _ _ (by simp[hop])];have e:(execOp a.eval o).run P w=.ok (.value (a.eval (.tmp q))) w:=by unfold execOp;rw[hop];rfl
 rw[e];simp only[cr,hd];exact h
end
def J8{ps:List Tmp}{asg:Code}{p d:Nat}(h:yy ps asg=some (p,d)):ps=[p]/\∃id ops o,asg=.region id ops false/\ops.toList=[o]/\o.dst=some d/\o.op=.assign (.tmp p)/\o.guard=none:=by
 unfold yy at h;split at h
 ·split at h
  ·split at h
   ·split at h
    ·cases h
     rename_i hb _;have:=bz hb;subst this;exact⟨rfl,_,_,_,rfl,by assumption,by assumption,by assumption,by assumption⟩
    ·cases h
   ·cases h
  ·cases h
 ·cases h
def Nr(D:Nat):Deferred:={target:=.collected D,args:=#[]}
def yz{a:Act}(h:a.defers=[]):mq [] a=a:=by cases a;simp only at h;subst h;rfl
section
variable{X:Ext}{P:Program}{cx:Cx}
structure Ns (cx:Cx) (X:Ext) (O:aH) (K:St->VC) (S:bI) (a a':Act) (w':World) (D:Nat) (st':St) (loc':Nat->Loc):Prop where
 act:a'=mq [Nr D] a
 vc:(K st').holds
 gJ:Good cx.eT X (aA O st' loc' w')
 tr:Tr S (aA O st' loc' w')
 env:gz cx.eT (aA O st' loc' w') st'.env a
 Xr:S.w.heap.size<=D
 mark:w'.heap[D]?=some (.deferred (some []))
 plain:oe st'.aF=true
def QR(cx:Cx)(X:Ext)(O:aH)(K:Ex->St->VC)(S:bI)(a:Act):Exit->Act->World->Prop
 |.normal,a',w'=>∃D st' loc',Ns cx X O (K .normal) S a a' w' D st' loc'
 |.ret,a',w'=>∃D st' loc',Ns cx X O (K .ret) S a a' w' D st' loc'
 |_,_,_=>False
def pE{st:St}:∀{l:List Nat} {n:Nat} {v:SV},n∈l->look st.env n=some v->look (nz st l) n=some v
 |[],_,_,h,_=>by simp at h
 |t :: r,n,v,h,hv=>by
  simp only[nz];by_cases e:t=n
  ·subst e
   rw[hv];simp only[cC,if_true]
  ·have hn:n∈r:=(ag.1 h).resolve_left fun h=>e h.symm
   cases look st.env t with
   |none=>exact pE hn hv
   |some u=>simp only[cC,if_neg e];exact pE hn hv
def S4{an:jm}{st:St}{us:List Nat}{x:an.X}(hs:an.bM x=[])(hnr:qz an.keep an.refs=true){n:Nat}(hn:n∈an.keep){v:SV}(h:look st.env n=some v):look (eZ an st us x).env n=some v:=by
 simp only[eZ,yj,eM,hs];split
 ·rename_i u hu
  obtain⟨k,hk,_⟩:=qd hu;exact absurd hn (uQ hnr hk)
 ·simp only[look]
  exact pE hn h
def Cv{O:aH}{an:lH}{ν0:List Nat}{st1 st':St}{loc loc':Nat->Loc}{w W:World}{a:Act}{pre:List Nat}(g:Good cx.eT X (aA O st' loc' W))(hsz:a.tmps.size=cx.N)(hdf:a.defers=[])(henv:gz cx.eT (aA O st' loc' W) st'.env a)
  (ht:Tr (aA O st1 loc w) (aA O st' loc' W))(hkeep:∀n∈an.keep,∀v,look st1.env n=some v->∃u,look st'.env n=some u/\nY u v)(hf:∃ν,G4 an.xG st1 st' pre ν/\vp an.aN ν0 ν=true)(hB:qH an ν0 st1 pre=true) :
  ∃loc2,Good cx.eT X (aA O (gH an ν0 st1 pre) loc2 W)/\gz cx.eT (aA O (gH an ν0 st1 pre) loc2 W) (gH an ν0 st1 pre).env a/\Tr (aA O st1 loc w) (aA O (gH an ν0 st1 pre) loc2 W):=by
 simp only[qH,af]at hB;obtain⟨h1,_,h3,h4⟩:=hB;obtain⟨ν,hf,hk⟩:=hf;obtain⟨loc2,m1,m2,m3⟩:=D8 (an:=an.xG) (st:=st1) (st':=st') (O:=O) (loc:=loc') (w:=W) (loc0:=loc) (w0:=w) (a:=a) (W:=[]) (ν:=ν) pre h3 pT (fun n hn=>qP h4 hn)
  (fun i m hi=>by
   rcases qB hi with⟨o,o',k1,k2,k3,k4⟩|k
   ·rw[k1]at k2;cases k2
    refine .inr ⟨?_,o,k1,k3⟩;have hl:i<ν.length:=by rw[<-pg hf.get];exact bG k1
    rw[List.getElem?_eq_getElem hl];exact congrArg some (EY hk k1 k3 k4 (List.getElem?_eq_getElem hl))
   ·exact .inl k) g ⟨hsz,hdf,henv⟩ ht h1 hkeep hf
 exact⟨loc2,m1,m2.env,m3⟩
def S5(hok:lq P cx X){it:FuncId}(hit:uf P it)(heg:∀args w,(callFunc it args).run P w=.ok (.enter it args) w){O:aH}{st:St}{loc:Nat->Loc}{w:World}{a:Act}{K:Ex->St->VC}{g:Operand}{ps:Array Tmp}{asg body:Code}{p d:Nat}
  (r:St->lH)(hsh:yy ps.toList asg=some (p,d))(hsb:kD body=true)(hpN:p<cx.N)(qI:d<cx.N)(hA:fQ cx (aA O st loc w) st a)(gd:Good cx.eT X (aA O st loc w))(hO:eS O w)
  (h:(SZ cx it r g p d body st K).holds):(Code.rangeFunc g ps asg body).wpIn bd 3 P (QR cx X O K (aA O st loc w) a) a w:=by
 obtain⟨hps,id,ops,o,rfl,hops,hdst,hop,hgd⟩:=J8 hsh;unfold SZ at h;split at h
 case h_2=>exact h.elim
 rename_i f n1 n2 hev;split at h
 case h_2=>exact h.elim
 rename_i T1 bs T2 k hb h1 h2;simp only[af,cf]at hb;have hf:=bz hb.1;subst hf;have hne:n1≠n2:=fun e=>by have h3:=hb.2;subst e;rw[Nat.beq_refl]at h3;cases h3
 obtain⟨st1,hst1⟩:∃s,s=bA (bA st n1) n2:=⟨_,rfl⟩
 rw[<-hst1]at h;generalize Uu st1 (r st1)=an at h;unfold Uv at h;split at h
 case h_2=>exact h.elim
 rename_i ν0 _;obtain⟨⟨hk1,hk2,hlen⟩,hfit,hbd,hend⟩:=h;obtain⟨x0,hinv0,hx0,hf0⟩:=Cu hfit;subst hx0;obtain⟨kN,hkN⟩:∃kN:Nat,kN=cc k:=⟨_,rfl⟩
 have hkk:(k:Int)=(kN:Int):=by rw[hkN];exact(ew (b7 (by decide) hk1)).symm
 rw[<-hkN]at hbd hend;have hHB:∀pre,an.inv pre->qH an ν0 st1 pre=true/\∀i,pre.length<fM bs.length kN->(vc cx [] body 0 (Gf an ν0 st1 bs kN p d pre i) (rK an ν0 st1 K pre i)).holds:=by
  intro pre hp;have:=hbd pre hp;split at this
  ·rename_i e;exact⟨e,fun i hi=>this i hi⟩
  ·exact this.elim
 have hx:=bL hA.env g;rw[hev]at hx;obtain⟨hgv,hcap⟩:=hx;obtain⟨b1,vs1,hl1,hbs1,hheap1,hc1⟩:=(gd.obj n1 _ h1).2;obtain⟨b2,vs2,hl2,hbs2,hheap2,hc2⟩:=(gd.obj n2 _ h2).2;cases hc1 with
 |cons hv1 _ hr1=>
 cases hr1;cases hc2 with
 |cons hv2 _ hr2=>
 cases hr2;rename_i v1 _ v2 _;obtain⟨a0,cap,rfl,hcap1,hsome,hpart⟩:=S3 hv1;obtain⟨rfl,_⟩:=cQ.1 hv2;have hb1:b1<w.heap.size:=(Array.getElem?_eq_some_iff.1 hheap1).1;have hb2:b2<w.heap.size:=(Array.getElem?_eq_some_iff.1 hheap2).1;have hcell1:w.cell? ⟨b1,0,none⟩=some (.slice a0 bs.length cap):=by rw[cell_of_row w b1 _ _ _ (0,0) hheap1];rfl
 have hcell2:w.cell? ⟨b2,0,none⟩=some (.int .i64 kN):=by rw[cell_of_row w b2 _ _ _ (0,0) hheap2,<-hkk];rfl
 obtain⟨tr1,g1⟩:=mQ (cx:=cx) gd n1;obtain⟨tr2,g2⟩:=mQ (cx:=cx) g1 n2;rw[<-hst1]at tr2 g2;have trS:=tr1.trans tr2;have hlook:∀n oc,look st1.aF n=some oc->n≠n1/\n≠n2/\look st.aF n=some oc:=by
  intro n oc hn;rw[hst1]at hn;simp only[bA,lS]at hn;split at hn
  ·cases hn
  ·split at hn
   ·cases hn
   ·rename_i e1 e2;exact⟨fun e=>e2 e.symm,fun e=>e1 e.symm,hn⟩
 have hno1:∀{loc' W pre},Tr (aA O st1 loc w) (aA O (gH an ν0 st1 pre) loc' W)->¬(aA O (gH an ν0 st1 pre) loc' W).owns b1:=by
  intro loc' W pre t ho;rcases t.own b1 ho with⟨n,oc,k1,k2⟩|k
  ·obtain⟨e1,_,k3⟩:=hlook n oc k1
   exact e1 (gd.apart n n1 oc _ b1 k3 h1 k2 (by show b1∈((aA O st loc w).loc n1).bs;rw[hbs1];simp))
  ·exact absurd hb1 (bc.2 k)
 have hno2:∀{loc' W pre},Tr (aA O st1 loc w) (aA O (gH an ν0 st1 pre) loc' W)->¬(aA O (gH an ν0 st1 pre) loc' W).owns b2:=by
  intro loc' W pre t ho;rcases t.own b2 ho with⟨n,oc,k1,k2⟩|k
  ·obtain⟨_,e1,k3⟩:=hlook n oc k1
   exact e1 (gd.apart n n2 oc _ b2 k3 h2 k2 (by show b2∈((aA O st loc w).loc n2).bs;rw[hbs2];simp))
  ·exact absurd hb2 (bc.2 k)
 have hgbs:∀b∈X.DO,b<w.heap.size:=fun b hb=>X.Gi gd.kW.1 b hb
 have hpartW:∀{loc' W pre} (_:Tr (aA O st1 loc w) (aA O (gH an ν0 st1 pre) loc' W)) i,VR cx.eT Li (eH bs kN i) (aA O (gH an ν0 st1 pre) loc' W).A W (kx a0 bs.length kN i):=fun t i=>
  VR.frame (hpart kN i) (trS.trans t).cell
 have hv0:mq [] a=a:=yz hA.defers;have hplainH:∀{pre},qH an ν0 st1 pre=true->oe (gH an ν0 st1 pre).aF=true:=fun hB=>by simp only[qH,af]at hB;exact hB.2.1
 have hO1:∀{W:World},w.heap.size<=W.heap.size->eS O W:=fun hs=>hO.tr hs
 refine wpIn_rangeFunc_ownG (F:=bd) (n:=3) rfl (by decide) (gf:=f) (lb:=#[.pointer (some ⟨b1,0,none⟩),.pointer (some ⟨b2,0,none⟩)]) (by rw[hgv];simp only[List.map];rw[hl1,hl2]) trivial heg
  (hit b1 b2 a0 bs.length cap kN w (dc.1 (by rw[<-hkk];exact hk1)) (dc.1 (by rw[<-hkk];exact hk2)) hlen hcap1 hsome hb1 hb2 hcell1 hcell2)
  (fun h k=>⟨k.1.trans h.1,k.2.trans h.2⟩)
  (fun W l o o' hl ho hc _=>⟨World.cell?_of_block (fu (by simp only;omega)),World.cell?_of_block (fu (by simp only;omega))⟩)
  (fw _ _) (fun x=>by rw[<-Array.length_toList (xs:=ps),hps];rfl)
  (fun pre W=>∃loc',an.inv pre/\qH an ν0 st1 pre=true/\Good cx.eT X (aA O (gH an ν0 st1 pre) loc' W)/\gz cx.eT (aA O (gH an ν0 st1 pre) loc' W) (gH an ν0 st1 pre).env a/\Tr (aA O st1 loc w) (aA O (gH an ν0 st1 pre) loc' W))
  (fun c pre W=>c=.ret/\∃st' loc',((∃j,pre=ba j)->(K .ret st').holds)/\oe st'.aF=true/\Good cx.eT X (aA O st' loc' W)/\gz cx.eT (aA O st' loc' W) st'.env a/\Tr (aA O st1 loc w) (aA O st' loc' W))
  ?_ ?_ ?_ (fun x=>(a.put (some p) (kx a0 bs.length kN x)).put (some d) (kx a0 bs.length kN x)) ?_ ?_ ?_ ?_
 ·rintro pre A B row ⟨loc',hi,hB,g',he',t'⟩ hg hr
  have bk:=r6.of hg hr;exact⟨loc',hi,hB,xF g' bk (fun n oc hn=>mB (hplainH hB) hn) hgbs,AV he' bk,Du t' bk (ak _)⟩
 ·rintro c pre A B row ⟨rfl,st',loc',hk,hpl,g',he',t'⟩ hg hr
  have bk:=r6.of hg hr;exact⟨rfl,st',loc',hk,hpl,xF g' bk (fun n oc hn=>mB hpl hn) hgbs,AV he' bk,Du t' bk (ak _)⟩
 ·have hB:=(hHB [] hinv0).1
  obtain⟨loc2,m1,m2,m3⟩:=Cv (an:=an) (pre:=[]) g2 hA.size hA.defers (fun n v hv=>by
   rw[hst1]at hv;exact(hA.env n v hv).tr trS) (Tr.refl _) (fun n _ v hv=>⟨v,hv,jZ v⟩) hf0 hB
  exact⟨loc2,hinv0,hB,m1,m2,m3⟩
 ·intro l x W K' hK'
  refine P9 hops hdst hop hgd (fun _=>trivial) ?_;have e:({tmps:=(ps.zip #[kx a0 bs.length kN x]).foldl (fun t (p,v)=>t.setIfInBounds p v) a.tmps,defers:=[]}:Act)=a.put (some p) (kx a0 bs.length kN x):=by
   have:ps= #[p]:=by rw[<-fv (xs:=ps),hps]
   rw[this];refine Eq.trans ?_ (congrArg (fun z:Act=>z.put (some p) (kx a0 bs.length kN x)) hv0);rw[show(#[p]:Array Tmp).zip #[kx a0 bs.length kN x]= #[(p,kx a0 bs.length kN x)] by simp[Array.zip]];rfl
  rw[e];have e2:(a.put (some p) (kx a0 bs.length kN x)).eval (.tmp p)=kx a0 bs.length kN x:=by
   have hp':p<a.tmps.size:=by rw[hA.size];exact hpN
   simp[Act.put,Act.eval,ei,hp']
  rw[e2];exact hK'
 ·rintro l pre x W ⟨loc',hi,hB,g',he',t'⟩ hlt
  have hvc:=(hHB pre hi).2 x hlt;have hpv:=hpartW t' x;have hA1:fQ cx (aA O (gH an ν0 st1 pre) loc' W) {gH an ν0 st1 pre with env:=(p,.s (.one (.d Li (eH bs kN x)))) :: (gH an ν0 st1 pre).env} (a.put (some p) (kx a0 bs.length kN x)):=
   fQ.put (st:=gH an ν0 st1 pre) ⟨hA.size,hA.defers,he'⟩ (Tr.refl _) rfl hpN hpv
  have hA2:fQ cx (aA O (gH an ν0 st1 pre) loc' W) (Gf an ν0 st1 bs kN p d pre x) ((a.put (some p) (kx a0 bs.length kN x)).put (some d) (kx a0 bs.length kN x)):=
   fQ.put hA1 (Tr.refl _) rfl qI hpv
  have hrun:=xE (n:=3-1-1) (st:=Gf an ν0 st1 bs kN p d pre x) hok (F:=bd.inRound l) (.inr ⟨l,rfl⟩) [] body 0 hsb hA2 g' (hO1 t'.size) hvc;rw[yz hA2.defers]at hrun;refine wpIn_mono hrun ?_;rintro e a2 W2 ⟨a',rfl,_,hq⟩;have keeps:∀{st2 loc2},Tr (aA O (gH an ν0 st1 pre) loc' W) (aA O st2 loc2 W2)->KeepsFrom w.heap.size W W2:=fun k3=>
   ⟨k3.size,fun k o hk hko ho=>(k3.block k (Array.getElem?_eq_some_iff.1 hko).1 (EX g' (fun n oc hn=>mB (hplainH hB) hn) hko ho)).trans hko⟩
  cases e with
  |normal=>
   obtain⟨st2,loc2,k1,k2,k3,k4,k5⟩:=hq;obtain⟨x1,i2,hx1,hf1⟩:=Cu k1;subst hx1;have hB2:=(hHB _ i2).1;have hnr:qz an.xG.keep an.xG.refs=true:=by simp only[qH,pj,af]at hB;exact hB.1.2.2.2
   obtain⟨loc2,m1,m2,m3⟩:=Cv (an:=an) (st':={st2 with env:=(gH an ν0 st1 pre).env}) (pre:=pre++[x]) k2 hA.size hA.defers (he'.tr k3) (t'.trans k3) (fun n hn v hv=>⟨v,S4 (an:=an.xG) rfl hnr hn hv,jZ v⟩) hf1 hB2;exact⟨keeps k3,⟨World.cell?_of_block (k3.block b1 (de hb1 t'.size) (hno1 t')),World.cell?_of_block (k3.block b2 (de hb2 t'.size) (hno2 t'))⟩,loc2,i2,hB2,m1,m2,m3⟩
  |ret=>
   obtain⟨st2,loc2,k1,k2,k3,k4,k5⟩:=hq;simp only[rK]at k1;split at k1
   ·rename_i hpl
    exact⟨keeps k3,rfl,_,loc2,fun⟨j,hj⟩=>k1 (by
     cases j with
     |zero=>simp at hj
     |succ j=>
      rw[cq]at hj;obtain⟨e1,e2⟩:=List.append_inj' hj rfl;simp at e2;rw[e2];exact e1),hpl,k2,he'.tr k3,t'.trans k3⟩
   ·exact k1.elim
  |exit i=>obtain⟨_,_,k1,_⟩:=hq;exact k1.elim
  |goto l=>exact hq.elim
  |panic c=>exact hq.elim
  |outgrown=>exact hq.elim
 ·rintro D xs W hD rfl ⟨loc',hi,hB,g',he',t'⟩ hm
  refine⟨D,_,loc',⟨?_,hend hi,g',trS.trans t',he',hD,hm,hplainH hB⟩⟩;rw[hA.defers];rfl
 ·rintro D c pre W hD hsp ⟨rfl,st',loc',hk,hpl,g',he',t'⟩ hm
  refine wpIn_ret ⟨D,st',loc',⟨?_,hk hsp,g',trS.trans t',he',hD,hm,hpl⟩⟩;rw[hA.defers];rfl
end
def Lj(cx:Cx)(it:FuncId)(ra:List (Nat×(St->lH))):Code->St->(Ex->St->VC)->VC
 |.seq a b,st,K=>match kD b with
  |true=>Lj cx it ra a st fun e st'=>match e with
   |.normal=>vc cx [] b 0 st' K
   |e=>K e st'
  |false=>match kD a with
   |true=>vc cx [] a 0 st fun e st'=>match e with
    |.normal=>Lj cx it ra b st' K
    |e=>K e st'
   |false =>.ff
 |.block id (.rangeFunc g ps asg body),st,K=>match yy ps.toList asg,look ra id with
  |some (p,d),some r=>match Nat.blt p cx.N&&(Nat.blt d cx.N&&kD body)with
   |true=>SZ cx it r g p d body st K
   |false =>.ff
  |_,_ =>.ff
 |_,_,_ =>.ff
def Uw(cx:Cx)(it:FuncId)(ra:List (Nat×(St->lH)))(res:List ResultVar)(c:Code)(st:St)(K:List cO->St->VC):VC:=
 Lj cx it ra c st fun e st'=>match e with
  |.exit _ =>.ff
  |_=>match oe st'.aF with
   |true=>qe cx st' res fun vs=>K vs st'
   |false =>.ff
def Xl:Exit->Option Ex
 |.normal=>some .normal
 |.exit n=>some (.exit n)
 |.ret=>some .ret
 |_=>none
def ug(B:Nat)(S:bI)(ds:List Deferred):Prop:=ds=[]\/∃D,ds=[Nr D]/\B<=D/\S.w.heap[D]?=some (.deferred (some []))/\¬S.owns D
section
variable{X:Ext}{P:Program}{cx:Cx}
def ug.tr{B:Nat}{S S':bI}{ds:List Deferred}(h:ug B S ds)(t:Tr S S'):ug B S' ds:=by
 rcases h with h|⟨D,h1,h2,h3,h4⟩
 ·exact .inl h
 ·have hlt:D<S.w.heap.size:=(Array.getElem?_eq_some_iff.1 h3).1
  exact .inr ⟨D,h1,h2,(t.block D hlt h4).trans h3,fun ho=>(t.own D ho).elim h4 fun h=>absurd hlt (bc.2 h)⟩
structure S6 (cx:Cx) (X:Ext) (O:aH) (K:St->VC) (S:bI) (a':Act) (w':World) (ds:List Deferred) (a2:Act) (st':St) (loc':Nat->Loc):Prop where
 act:a'=mq ds a2
 rel:fQ cx (aA O st' loc' w') st' a2
 vc:(K st').holds
 gJ:Good cx.eT X (aA O st' loc' w')
 tr:Tr S (aA O st' loc' w')
 marks:ug S.w.heap.size (aA O st' loc' w') ds
def QE(cx:Cx)(X:Ext)(O:aH)(K:Ex->St->VC)(S:bI):Exit->Act->World->Prop:=fun e a' w'=>∃x,Xl e=some x/\∃ds a2 st' loc',S6 cx X O (K x) S a' w' ds a2 st' loc'
def Nt{O:aH}{K:Ex->St->VC}{W:List Nat}{st1:St}{S0 S1:bI}{ds:List Deferred}(t:Tr S0 S1)(hm:ug S0.w.heap.size S1 ds){e:Exit}{a:Act}{w:World}(h:zW ds (jy cx X O K W st1 S1) e a w):QE cx X O K S0 e a w:=by
 obtain⟨a',rfl,hb,hq⟩:=h;cases e with
 |normal=>obtain⟨st',loc',k1,k2,k3,k4,_⟩:=hq;exact⟨_,rfl,ds,a',st',loc',rfl,k4,k1,k2,t.trans k3,hm.tr k3⟩
 |exit i=>obtain⟨st',loc',k1,k2,k3,k4,_⟩:=hq;exact⟨_,rfl,ds,a',st',loc',rfl,k4,k1,k2,t.trans k3,hm.tr k3⟩
 |ret=>obtain⟨st',loc',k1,k2,k3,k4,_⟩:=hq;exact⟨_,rfl,ds,a',st',loc',rfl,k4,k1,k2,t.trans k3,hm.tr k3⟩
 |goto l=>exact hq.elim
 |panic c=>exact hq.elim
 |outgrown=>exact hq.elim
def QE.mono{O:aH}{K:Ex->St->VC}{S0 S1:bI}(t:Tr S0 S1){e:Exit}{a:Act}{w:World}(h:QE cx X O K S1 e a w):QE cx X O K S0 e a w:=by
 obtain⟨x,hx,ds,a2,st',loc',q⟩:=h;refine⟨x,hx,ds,a2,st',loc',q.act,q.rel,q.vc,q.gJ,t.trans q.tr,?_⟩;rcases q.marks with h|⟨D,h1,h2,h3⟩
 ·exact .inl h
 ·exact .inr ⟨D,h1,b5 t.size h2,h3⟩
def Qa(hok:lq P cx X){it:FuncId}(hit:uf P it)(heg:∀args w,(callFunc it args).run P w=.ok (.enter it args) w){O:aH}(ra:List (Nat×(St->lH))):∀(c:Code) {st:St} {loc:Nat->Loc} {w:World} {a:Act} {K:Ex->St->VC},
  fQ cx (aA O st loc w) st a->Good cx.eT X (aA O st loc w)->eS O w->(Lj cx it ra c st K).holds->c.wpIn bd 3 P (QE cx X O K (aA O st loc w)) a w:=by
 intro c;induction c with
 |seq c1 c2 ih1 ih2=>
  intro st loc w a K hA g hO h;simp only[Lj]at h;split at h
  ·rename_i hs2
   refine wpIn_seq (wpIn_mono (ih1 hA g hO h) ?_);rintro e a1 w1 ⟨x,hx,ds,a2,st',loc',q⟩;cases e with
   |normal=>
    cases hx;obtain⟨rfl,q2,q3,q4,q5,q6⟩:=q;exact wpIn_mono (xE (n:=3) hok (F:=bd) (.inl rfl) ds c2 0 hs2 q2 q4 (hO.tr q5.size) q3) fun e a w hq=>Nt q5 q6 hq
   |exit i=>cases hx;exact⟨_,rfl,ds,a2,st',loc',q⟩
   |ret=>cases hx;exact⟨_,rfl,ds,a2,st',loc',q⟩
   |goto l=>cases hx
   |panic c=>cases hx
   |outgrown=>cases hx
  ·split at h
   ·rename_i hs1
    have hr:=xE (n:=3) hok (F:=bd) (.inl rfl) [] c1 0 hs1 hA g hO h;rw[yz hA.defers]at hr;refine wpIn_seq (wpIn_mono hr ?_);rintro e a1 w1 hq;cases e with
    |normal=>
     obtain⟨a',rfl,hb,st',loc',k1,k2,k3,k4,_⟩:=hq;show c2.wpIn _ _ _ _ (mq [] a') w1;rw[yz hb];exact wpIn_mono (ih2 k4 k2 (hO.tr k3.size) k1) fun e a w hq=>hq.mono k3
    |exit i=>exact Nt (K:=K) (Tr.refl _) (.inl rfl) hq
    |ret=>exact Nt (K:=K) (Tr.refl _) (.inl rfl) hq
    |goto l=>exact hq.choose_spec.2.2.elim
    |panic c=>exact hq.choose_spec.2.2.elim
    |outgrown=>exact hq.choose_spec.2.2.elim
   ·exact h.elim
 |block id b ih=>
  intro st loc w a K hA g hO h;cases b with
  |rangeFunc gf ps asg body=>
   simp only[Lj]at h;split at h
   ·rename_i p d r hsh _
    split at h
    ·rename_i hb
     simp only[af]at hb;refine wpIn_block (wpIn_mono (S5 hok hit heg r hsh hb.2.2 (mf hb.1) (mf hb.2.1) hA g hO h) ?_);have fin:∀{x:Ex} {a':Act} {w':World},(∃D st' loc',Ns cx X O (K x) (aA O st loc w) a a' w' D st' loc')->∃ds a2 st' loc',S6 cx X O (K x) (aA O st loc w) a' w' ds a2 st' loc':=by
      rintro x a' w' ⟨D,st',loc',q⟩;exact⟨[Nr D],a,st',loc',q.act,⟨hA.size,hA.defers,q.env⟩,q.vc,q.gJ,q.tr,.inr ⟨D,rfl,q.Xr,q.mark,EX q.gJ (fun n oc hn=>mB q.plain hn) q.mark rfl⟩⟩
     intro e a' w' hq;cases e with
     |normal=>exact⟨_,rfl,fin hq⟩
     |ret=>exact⟨_,rfl,fin hq⟩
     |exit i=>exact hq.elim
     |goto l=>exact hq.elim
     |panic c=>exact hq.elim
     |outgrown=>exact hq.elim
    ·exact h.elim
   ·exact h.elim
  |_=>exact h.elim
 |_=>intro st loc w a K hA g hO h;exact h.elim
def Qb(hok:TyOK P cx){O:aH}{st:St}{loc:Nat->Loc}{w:World}{a:Act}(g:Good cx.eT X (aA O st loc w))(he:gz cx.eT (aA O st loc w) st.env a){fn:Func}{K:List cO->VC}(h:(qe cx st fn.results.toList K).holds) :
  ∃vs us,(K vs).holds/\cP cx.eT (aA O st loc w) vs us/\(results fn a.tmps).run P w=.ok (uS us) w:=by
 obtain⟨vs,us,m1,m2,m3⟩:=yV (P:=P) hok g he h;refine⟨vs,us,m1,m2,?_⟩;have hm:(fn.results.mapM (rQ a.tmps):Sem (Array Value)).run P w=.ok us.toArray w:=by
  rw[<-fv (xs:=fn.results),List.mapM_toArray,Sem.run_map,m3];rfl
 have he:results fn a.tmps=(do
   let xs <-fn.results.mapM (rQ a.tmps)
   return if h:xs.size=1 then xs[0]else .tuple xs):=by
  unfold results;congr 1
 rw[he,Sem.run_bind,hm];simp only[ep,Sem.run_pure]
 match us with
 |[]=>rfl
 |[u]=>rfl
 |_ :: _ :: _=>rfl
def Ih(hok:lq P cx X){it:FuncId}(hit:uf P it)(heg:∀args w,(callFunc it args).run P w=.ok (.enter it args) w){f:FuncId}{fn:Func}{c:Code}(hf:P.funcs[f]?=some fn)(hb:fn.body=some c)(hN:cx.N=fn.ntmps)(ra:List (Nat×(St->lH))){O:aH}{st:St}{loc:Nat->Loc}{w:World}
  {args:Array Value}{K:List cO->St->VC}(hsz:args.size<=fn.ntmps)(g:Good cx.eT X (aA O st loc w))(hO:eS O w)
  (henv:∀t sv,look st.env t=some sv->∃v,args[t]?=some v/\dI cx.eT (aA O st loc w) sv v)
  (h:(Uw cx it ra fn.results.toList c st K).holds) :
  Calls P f args w fun e w'=>∃vs us st' loc',e=.returned (uS us)/\(K vs st').holds/\cP cx.eT (aA O st' loc' w') vs us/\Good cx.eT X (aA O st' loc' w')/\Tr (aA O st loc w) (aA O st' loc' w'):=by
 refine callsIn_wide.1 (callsIn_of_wp_marks (n:=3) hf hb trivial ?_);have hA:fQ cx (aA O st loc w) st {tmps:=args++Array.replicate (fn.ntmps-args.size) undef,defers:=[]}:=by
  refine⟨by simp[hN];omega,rfl,fun t sv ht =>?_⟩;obtain⟨v,hv,hr⟩:=henv t sv ht;have hlt:t<args.size:=by
   rcases bg t args.size with hh|hh
   ·exact hh
   ·rw[Array.getElem?_eq_none hh]at hv;cases hv
  rw[ei,Array.getElem?_append,if_pos hlt,hv];exact hr
 refine wpIn_mono (Qa hok hit heg ra c hA g hO h) ?_;have fin:∀{a':Act} {w':World} {ds:List Deferred} {a2:Act} {st':St} {loc':Nat->Loc},S6 cx X O (fun st'=>match oe st'.aF with
   |true=>qe cx st' fn.results.toList fun vs=>K vs st'
   |false =>.ff) (aA O st loc w) a' w' ds a2 st' loc'->
   LeavesInM bd 3 P fn a'.tmps (fun e w'=>∃vs us st' loc',e=.returned (uS us)/\(K vs st').holds/\cP cx.eT (aA O st' loc' w') vs us/\Good cx.eT X (aA O st' loc' w')/\Tr (aA O st loc w) (aA O st' loc' w')) a'.defers .returning w':=by
  rintro a' w' ds a2 st' loc' ⟨rfl,q2,q3,q4,q5,q6⟩;split at q3
  case h_2=>exact q3.elim
  rename_i hpl;rcases q6 with rfl|⟨D,rfl,k1,k2,k3⟩
  ·obtain⟨vs,us,m1,m2,m3⟩:=Qb hok.toTyOK q4 q2.env q3
   exact⟨_,m3,vs,us,st',loc',rfl,m1,m2,q4,q5⟩
  ·have bk:r6 w.heap.size w' (w'.putObj D (.deferred none)):=r6.of (grownBy_putObj' w' D _) (fun r e=>by cases e;exact⟨k1,_,k2,rfl⟩)
   have g':Good cx.eT X (aA O st' loc' (w'.putObj D (.deferred none))):=xF q4 bk (fun n oc hn=>mB hpl hn) (fun b hb=>X.Gi g.kW.1 b hb);have t':Tr (aA O st loc w) (aA O st' loc' (w'.putObj D (.deferred none))):=Du q5 bk (ak _);have e':gz cx.eT (aA O st' loc' (w'.putObj D (.deferred none))) st'.env a2:=AV q2.env bk;obtain⟨vs,us,m1,m2,m3⟩:=Qb hok.toTyOK g' e' q3;refine⟨by simp,.inl ⟨D,_,rfl,run_takeDeferred k2,?_⟩⟩;exact⟨_,m3,vs,us,st',loc',rfl,m1,m2,g',t'⟩
 rintro e a' w' ⟨x,hx,ds,a2,st',loc',q⟩;cases e with
 |normal=>cases hx;exact fin q
 |ret=>cases hx;exact fin q
 |exit i=>cases hx;exact q.vc.elim
 |goto l=>cases hx
 |panic c=>cases hx
 |outgrown=>cases hx
variable{aN:List Ob}{args:List Cl}
def Dv(B:Cx)(Γ:List (FuncId×(Bool×aT)))(it:FuncId)(fn:Func)(ra:List (Nat×(St->lH)))(aN:List Ob)(args:List Cl)(alts:List (Alt aN args))(a:CD args)(x:PD aN):VC:=
 Uw (qO B Γ fn.ntmps) it ra fn.results.toList (codeOf fn) (kC aN args a x) fun vs st'=>sG a x vs st' alts
def Dw{B:Cx}{Γ:List (FuncId×(Bool×aT))}(hok:bO P B X Γ){it:FuncId}(hit:uf P it){fi:Func}(hfi:P.funcs[it]?=some fi)(hgi:pk fi 3=true){f:FuncId}{fn:Func}(hf:P.funcs[f]?=some fn)(hg:pk fn args.length=true)(ra:CD args->PD aN->List (Nat×(St->lH)))
  {pre:CD args->PD aN->Prop}{alts:List (Alt aN args)}(h:∀a x,gI args a->pre a x->(Dv B Γ it fn (ra a x) aN args alts a x).holds) :
  bX P B.eT X f false (aV aN args pre alts):=by
 simp only[pk,af,cf]at hg hgi;obtain⟨⟨h1,h2⟩,h3⟩:=hg;obtain⟨c,hc⟩:=dj.1 h1;have heg:∀args w,(callFunc it args).run P w=.ok (.enter it args) w:=fun args w=>wy hfi (by obtain⟨ci,hci⟩:=dj.1 hgi.1.1;rw[hci];rfl) hgi.1.2 args w
 refine⟨⟨fn,hf,by rw[hc];rfl,h2⟩,fun O st loc w asg vs K hK g hO ha =>?_⟩;unfold aV at hK;obtain⟨t1,g1,e1,k1⟩:=uW args asg g;simp only at hK;split at hK
 case h_2=>exact hK.elim
 rename_i ν hν;split at hK
 case h_2=>exact hK.elim
 rename_i a x hnd hga hx;obtain⟨hp,hpre,hK⟩:=Aw hK;obtain⟨hp1,hp2⟩:=jf.1 hp;refine(Ej (f:=f) (B:=B) (pre:=pre) g1 hO (k1 vs ha) hnd hga hx hp1 hp2 hpre hK fun hwf O' loc0 g0 hOin' hargs hlen =>?_).mono ?_
 ·have hcode:codeOf fn=c:=by unfold codeOf;rw[hc];rfl
  have hvc:=h a x hwf hpre;unfold Dv at hvc;rw[hcode]at hvc;exact Ih (X:=X) (hok fn.ntmps) hit heg hf hc (by rfl) (ra a x) (O:=O') (loc:=loc0) (w:=w) (args:=vs.toArray) (st:=kC aN args a x)
   (by rw[di,hlen];exact en h3) g0 hOin'
   (fun t sv ht=>by
    obtain⟨_,v,k1,k2⟩:=th 0 hargs t sv ht;exact⟨v,by simpa using k1,k2⟩) hvc
 ·rintro e w' ⟨v,sv,st',loc',q1,q2,q3,q4,q5,q6⟩
  exact⟨v,sv,st',loc',q1,q2,q3.trans e1,(fun hq=>by cases hq),q4,t1.trans q5,q6⟩
end
end Go.Vg

