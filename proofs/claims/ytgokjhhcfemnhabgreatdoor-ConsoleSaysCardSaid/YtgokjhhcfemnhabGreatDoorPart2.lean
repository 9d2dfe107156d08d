/- A part of the proof that the law ConsoleSaysCard holds of the given program: facts that are used there. -/
import Derived.Test.YtgokjhhcfemnhabGreatDoorPart1
import Derived.Deep.Heap
import Derived.Room.AppendFits
import Derived.Lib.UnsafeStr
import Derived.Lib.SplitLaws
import Derived.Lib.ItoaNum
import Derived.Lib.AtoiAll
set_option linter.unusedSimpArgs false
set_option linter.unusedVariables false
set_option linter.defProp false
noncomputable section
open True renaming intro->aa
open Go.Lib renaming itoa->ab,trimSuffix->ae,decDigits->ah,hasPrefix->ay,trimPrefix->a8,index->bu,parseUint10->bw,atoiAll->cp,splitK->dm,strCells->ds,strCells_length->eh
open List renaming take->af,mem_cons->ag,drop->ai,map_cons->aj,length_append->a7,mem_append->ba,length_take->bc,mem_map_of_mem->bg,mem_map->bj,all_eq_true->bk,drop_eq_nil_of_le->bm,replicate->bo,filter_cons->bp,length->bq,take_of_length_le->bt,pairwise_cons->bx,range->b7,flatMap_cons->cc,mem_of_getElem?->cf,any_eq_true->cg,take_length->ck,nodup_cons->cm,mem_cons_of_mem->cn,mem_of_mem_take->cq,take_add_one->cr,getElem_of_mem->cw,range_succ->cx,length_cons->cy,append_assoc->c8,mem_range->dc,any_eq_false->dd,all_eq_false->df,length_map->dj,isPrefixOf->dk,cons_append->dn,length_pos_iff->dp,map_map->dt,pairwise_map->dT,mem_filter->ec,length_singleton->ed,map_append->ei,getElem_take->er,Nodup->ew,nodup_append->ey,mem_singleton->ez,drop_zero->e8,mem_append_left->fb,take_append_drop->fc,size_toArray->fg,foldl_append->fk,drop_eq_getElem_cons->fu,ext_getElem->fv,nil_append->fw,length_filter_lt_length_iff_exists->fy,take_succ_cons->fz,take_zero->gd,length_nil->gf,mem_flatMap->gh
open BitVec renaming ofInt->ak,ofInt_natCast->du,toNat_and->fq,toNat_ofNat->fr
open Nat renaming zero_le->ao,le_refl->au,le_succ->bb,min->bh,lt_or_ge->br,not_lt->b8,mod_lt->ch,mod_eq_of_lt->ct,le_trans->cz,xor_lt_two_pow->de,min_eq_left->di,strongRecOn->ee,zero_add->eg,testBit_two_pow_mul->en,lt_of_lt_of_le->eo,pow_le_pow_right->ep,eq_of_testBit_eq->fl,testBit_and->fm,testBit_div_two_pow->fo,testBit_lt_two_pow->fp,testBit_xor->fs,min_eq_right->gi
open Classical renaming byContradiction->aq,choose->cu,choose_spec->dw
open Int renaming not_lt->ar,le_refl->ax,toNat->az,le_trans->b9,ofNat_inj->c6,not_le->dq,tmod_eq_emod_of_nonneg->dv,toNat_natCast->dx,fdiv_eq_ediv_of_nonneg->ft,le_sub_one_of_lt->ga
open Bool renaming and_eq_true->av,or_eq_true->cd,eq_iff_iff->dy,not_eq_true'->ef,or_eq_false_iff->ej,not_eq_true->gb,and_false->gg
open Go.IntKind renaming wrap->aw,u64->bf,signed->b5,bits->b6,u32->cj,u8->c7,min->da,max->db,i64->ek
open Go.Op renaming bytesLess->bd
open Go.Value renaming int->bz
open UInt8 renaming ofNat->c1,toNat_inj->dz,lt_iff_toNat_lt->et,toNat_ofNat'->fj
open Option.some renaming inj->dh,injEq->dr
open List.Perm renaming swap->eu
open Option renaming bind_some->e9
open Go.World renaming block_lt_of_cell?->fe
open Go.Builtin renaming append_->fh
open Bool renaming false->ψ,true->φ
open Option renaming some->ξ,none->χ
open Decidable renaming decide->ρ
namespace Go.Vg
open Go.RowKit
def mJ:List Cl->St->List dI->List dI×St
 |.d _ :: r,st,v :: vs=>match E5 st v with
  |(v',st1)=>match mJ r st1 vs with
   |(vs',st2)=>(v' :: vs',st2)
 |.obj _ :: r,st,v :: vs=>match mJ r st vs with
  |(vs',st2)=>(v :: vs',st2)
 |.jx :: r,st,v :: vs=>match mJ r st vs with
  |(vs',st2)=>(v :: vs',st2)
 |_,st,vs=>(vs,st)
def tR:List (Nat×OC)->List Nat->List (Nat×OC)
 |l,[]=>l
 |l,n :: r=>tR (vq l n) r
def pj:List Ob->List Ob->List Nat->Nat->List Nat
 |o :: os,o' :: os',n :: ns,b=>(match nL o o' with|true=>n|false=>b) :: pj os os' ns (b+1)
 |_,_ :: os',_,b=>b :: pj [] os' [] (b+1)
 |_,[],_,_=>[]
def IZ:Nat->List Ob->List Ob->List (Nat×Nat)
 |k,o :: os,o' :: os'=>match nL o o' with
  |true=>(k,k) :: IZ (k+1) os os'
  |false=>IZ (k+1) os os'
 |_,_,_=>[]
def y7:Nat->List Ob->List Ob->List Nat->Bool
 |k,o :: os,o' :: os',n :: ns=>(match nL o o' with|true=>Nat.beq n k|false=>φ)&&y7 (k+1) os os' ns
 |_,_,_,_=>φ
structure Alt (aY:List Ob) (args:List Cl):Type 1 where
 cv:Bool:=ψ
 bQ:List Ob
 res:List Cl
 ok:CD args->PD aY->Prop:=fun _ _=>True
 out:CD args->PD aY->PD bQ
 ret:CD args->PD aY->CD res
section
variable{aY:List Ob}{args:List Cl}
def Nv(al:Alt aY args)(a:CD args)(x:PD aY)(ν:List Nat)(st:St)(K:SV->St->VC):VC:=
 match nodupB (pj aY al.bQ ν st.next)&&mc (st.next+al.bQ.length) (pj aY al.bQ ν st.next)with
 |true =>.imp (al.ok a x) (K (wB (Bn (jL al.bQ (al.out a x) (pj aY al.bQ ν st.next)) al.res (al.ret a x)))
   {env:=st.env,aK:=oB (jL al.bQ (al.out a x) (pj aY al.bQ ν st.next)) al.bQ (al.out a x) (pj aY al.bQ ν st.next)++tR st.aK ν,next:=st.next+al.bQ.length})
 |false =>.ff
def Bz(a:CD args)(x:PD aY)(ν:List Nat)(st:St)(K:SV->St->VC):List (Alt aY args)->VC
 |[] =>.leaf True
 |[al]=>Nv al a x ν st K
 |al :: al2 :: r =>.both (Nv al a x ν st K) (Bz a x ν st K (al2 :: r))
def bU(aY:List Ob)(args:List Cl)(pre:CD args->PD aY->Prop)(alts:List (Alt aY args)):aL:=fun akH st K=>
 match mJ args st akH with
 |(akH,st)=>match agA aY args akH st.aK []with
  |some ν=>match nodupB ν,oC ψ st.aK aY ν args akH,fI ψ st.aK aY ν aY ν with
   |true,ξ a,ξ x=>adS (oT aY x args akH++ky aY x st.aK aY ν) (.and (pre a x) (Bz a x ν st K alts))
   |_,_,_ =>.ff
  |none =>.ff
def mN(aY:List Ob)(args:List Cl)(a:CD args)(x:PD aY):St:=
 {env:=sM 0 (Bn (jL aY x (upto 0 aY.length)) args a),aK:=oB (jL aY x (upto 0 aY.length)) aY x (upto 0 aY.length),next:=aY.length}
def wC(a:CD args)(x:PD aY)(vs:List dI)(st:St):List (Alt aY args)->VC
 |[] =>.ff
 |al :: r=>match mJ al.res st vs with
  |(vs',st')=>match agA al.bQ al.res vs' st'.aK (IZ 0 aY al.bQ)with
   |some ν=>match nodupB ν&&(y7 0 aY al.bQ ν&&(!al.cv || (wy aY&&(iR al.bQ&&lK al.res)))),oC al.cv st'.aK al.bQ ν al.res vs',fI al.cv st'.aK al.bQ ν al.bQ ν with
    |true,ξ b,ξ y =>.leaf (Og (oT al.bQ y al.res vs'++ky al.bQ y st'.aK al.bQ ν++[al.ok a x/\y=al.out a x/\b=al.ret a x]))
    |_,_,_=>wC a x vs st r
   |none=>wC a x vs st r
def cE(B:Cx)(Γ:List (FuncId×(Bool×aL)))(fn:Func)(anns:cP)(aY:List Ob)(args:List Cl)(alts:List (Alt aY args))(a:CD args)(x:PD aY):VC:=
 Ww (uo B Γ fn.ntmps) anns fn.results.toList (codeOf fn) (mN aY args a x) fun vs st'=>wC a x vs st' alts
def J3:(cls:List Cl)->CD cls->Prop
 |[],_=>True
 |.d t :: r,x=>wf t x.1/\J3 r x.2
 |.obj _ :: r,x=>J3 r x
 |.jx :: r,x=>J3 r x
end
section
variable{eT:TypeId}{X:Ext}
def uq{k:Nat}:∀{l:List Nat} {n:Nat},mc k l=φ->n∈l->n<k
 |[],_,_,h=>by simp at h
 |m :: r,n,h,hn=>by
  simp only[mc,av]at h;rcases ag.1 hn with e|hn
  ·rw[e];exact oS h.1
  ·exact uq h.2 hn
def o7(m:Nat):∀(ns:List Nat) (l:List (Nat×OC)),look (tR l ns) m=if m∈ns then χ else look l m
 |[],l=>by simp[tR]
 |n :: r,l=>by
  simp only[tR];rw[o7 m r,oA];by_cases h1:m∈r
  ·simp[h1]
  ·by_cases h2:n=m
   ·subst h2;simp
   ·have:¬m=n:=fun e=>h2 e.symm
    simp[h1,h2,this]
def tS:∀{aY bQ:List Ob} {ν:List Nat} {b i n:Nat},(pj aY bQ ν b)[i]?=ξ n->
  (∃o o',aY[i]?=ξ o/\bQ[i]?=ξ o'/\nL o o'=φ/\ν[i]?=ξ n)\/b<=n
 |aY,[],ν,b,i,n,h=>by
  cases aY <;> cases ν <;> simp[pj]at h
 |[],o' :: os',ν,b,i,n,h=>by
  simp only[pj]at h;cases i with
  |zero=>simp at h;exact .inr ω
  |succ i=>
   rcases tS (aY:=[]) (ν:=[]) (by simpa using h)with⟨o,_,h1,_⟩|h1
   ·simp at h1
   ·exact .inr ω
 |o :: os,o' :: os',[],b,i,n,h=>by
  simp only[pj]at h;cases i with
  |zero=>simp at h;exact .inr ω
  |succ i=>
   rcases tS (aY:=[]) (ν:=[]) (by simpa using h)with⟨o,_,h1,_⟩|h1
   ·simp at h1
   ·exact .inr ω
 |o :: os,o' :: os',n0 :: ns,b,i,n,h=>by
  simp only[pj]at h;cases i with
  |zero=>
   simp only[List.getElem?_cons_zero,dr]at h;split at h
   ·rename_i hk;exact .inl ⟨o,o',rfl,rfl,hk,by simp[h]⟩
   ·exact .inr ω
  |succ i=>
   rcases tS (by simpa using h)with⟨a,a',h1,h2,h3⟩|h1
   ·exact .inl ⟨a,a',by simpa using h1,by simpa using h2,by simpa using h3⟩
   ·exact .inr ω
def sN:∀{aY bQ:List Ob} {ν:List Nat} {b:Nat},(pj aY bQ ν b).length=bQ.length
 |aY,[],ν,b=>by cases aY <;> cases ν <;> rfl
 |[],o' :: os',ν,b=>by simp[pj,sN]
 |o :: os,o' :: os',[],b=>by simp[pj,sN]
 |o :: os,o' :: os',n0 :: ns,b=>by simp[pj,sN]
def Gz:∀{aY bQ:List Ob} {ν:List Nat} {k i n:Nat} {o o':Ob},y7 k aY bQ ν=φ->aY[i]?=ξ o->bQ[i]?=ξ o'->nL o o'=φ->ν[i]?=ξ n->n=k+i
 |[],_,_,_,_,_,_,_,_,h,_,_,_=>by simp at h
 |_ :: _,[],_,_,_,_,_,_,_,_,h,_,_=>by simp at h
 |_ :: _,_ :: _,[],_,_,_,_,_,_,_,_,_,h=>by simp at h
 |a :: os,a' :: os',m :: ns,k,0,n,o,o',h,h1,h2,h3,h4=>by
  simp at h1 h2 h4;subst h1;subst h2;subst h4;simp only[y7,h3,av]at h;have:=Nat.eq_of_beq_eq_true h.1;omega
 |a :: os,a' :: os',m :: ns,k,i+1,n,o,o',h,h1,h2,h3,h4=>by
  simp only[y7,av]at h;have:=Gz h.2 (by simpa using h1) (by simpa using h2) h3 (by simpa using h4);omega
def J4:∀{l:List Ob} {o:Ob} {t:Ty},wy l=φ->o∈l->o≠.tok t
 |[],_,_,_,h=>by simp at h
 |a :: r,o,t,h,ho=>by
  rcases ag.1 ho with e|ho
  ·subst e;intro e;subst e;simp[wy]at h
  ·exact J4 (by cases a <;> simp_all [wy]) ho
def C5{S:bT}{F:Nat->Value->Prop}:∀{cls:List Cl} {x:CD cls} {vs:List Value},xe eT S F cls x vs->J3 cls x
 |[],_,_,_=>trivial
 |.d t :: r,x,v :: vs,h=>⟨h.1.wf,C5 h.2⟩
 |.obj k :: r,x,v :: vs,h=>C5 (cls:=r) h.2
 |.jx :: r,x,v :: vs,h=>C5 (cls:=r) h.2
def y8{S:bT}{F:Nat->Value->Prop}:∀{cls:List Cl} {x:CD cls} {vs:List Value},xe eT S F cls x vs->vs.length=cls.length
 |[],_,_,h=>by rw[show _=[]from h];rfl
 |.d t :: r,x,v :: vs,h=>by simp[y8 h.2]
 |.obj k :: r,x,v :: vs,h=>by simp[y8 (cls:=r) h.2]
 |.jx :: r,x,v :: vs,h=>by simp[y8 (cls:=r) h.2]
def y9{O:aO}{loc:Nat->Loc}{w:World}:∀(cls:List Cl) (xs:List dI) {st:St},Good eT X (aD O st loc w)->
  Tr (aD O st loc w) (aD O (mJ cls st xs).2 loc w)/\Good eT X (aD O (mJ cls st xs).2 loc w)/\(mJ cls st xs).2.env=st.env/\
   ∀vs,dK eT (aD O st loc w) xs vs->dK eT (aD O (mJ cls st xs).2 loc w) (mJ cls st xs).1 vs:=by
 intro cls;induction cls with
 |nil=>intro xs st g;exact⟨Tr.refl _,g,rfl,fun vs h=>h⟩
 |cons cl r ih=>
  intro xs st g;cases xs with
  |nil=>cases cl <;> exact⟨Tr.refl _,g,rfl,fun vs h=>h⟩
  |cons x xs=>
   cases cl with
   |d t=>
    have g':Good (Cx.mk eT [] [] [] 0 [] [] [] ψ [] []).eT X (aD O st loc w):=g;obtain⟨t1,g1,e1,k1⟩:=y5 g' x;obtain⟨t2,g2,e2,k2⟩:=ih xs g1;refine⟨t1.trans t2,g2,e2.trans e1,fun vs h =>?_⟩;cases h with
    |cons h1 h3=>exact .cons ((k1 _ h1).tr t2) (k2 _ (h3.tr t1))
   |obj k=>
    obtain⟨t2,g2,e2,k2⟩:=ih xs g;refine⟨t2,g2,e2,fun vs h =>?_⟩;cases h with
    |cons h1 h3=>exact .cons (h1.tr t2) (k2 _ h3)
   |jx=>
    obtain⟨t2,g2,e2,k2⟩:=ih xs g;refine⟨t2,g2,e2,fun vs h =>?_⟩;cases h with
    |cons h1 h3=>exact .cons (h1.tr t2) (k2 _ h3)
end
section
variable{X:Ext}{P:Program}{aY:List Ob}{args:List Cl}
def GA{a:CD args}{x:PD aY}{ν:List Nat}{st:St}{K:SV->St->VC}:∀{alts:List (Alt aY args)},(Bz a x ν st K alts).holds->∀al∈alts,(Nv al a x ν st K).holds
 |[],_,al,h=>by simp at h
 |[al0],h,al,ha=>by simp at ha;subst ha;exact h
 |al0 :: al1 :: r,h,al,ha=>by
  rcases ag.1 ha with e|ha
  ·subst e;exact h.1
  ·exact GA h.2 al ha
def J5{a:CD args}{x:PD aY}{vs:List dI}{st:St}:∀{alts:List (Alt aY args)},(wC a x vs st alts).holds->∃al∈alts,∃ν,
  nodupB ν=φ/\y7 0 aY al.bQ ν=φ/\(al.cv=ψ\/(wy aY=φ/\iR al.bQ=φ/\lK al.res=φ))/\al.ok a x/\
  oC al.cv (mJ al.res st vs).2.aK al.bQ ν al.res (mJ al.res st vs).1=ξ (al.ret a x)/\fI al.cv (mJ al.res st vs).2.aK al.bQ ν al.bQ ν=ξ (al.out a x)/\
  (∀p∈oT al.bQ (al.out a x) al.res (mJ al.res st vs).1,p)/\(∀p∈ky al.bQ (al.out a x) (mJ al.res st vs).2.aK al.bQ ν,p)
 |[],h=>h.elim
 |al :: r,h=>by
  have rest:(wC a x vs st r).holds->∃al'∈al :: r,∃ν,
    nodupB ν=φ/\y7 0 aY al'.bQ ν=φ/\(al'.cv=ψ\/(wy aY=φ/\iR al'.bQ=φ/\lK al'.res=φ))/\al'.ok a x/\
    oC al'.cv (mJ al'.res st vs).2.aK al'.bQ ν al'.res (mJ al'.res st vs).1=ξ (al'.ret a x)/\fI al'.cv (mJ al'.res st vs).2.aK al'.bQ ν al'.bQ ν=ξ (al'.out a x)/\
    (∀p∈oT al'.bQ (al'.out a x) al'.res (mJ al'.res st vs).1,p)/\(∀p∈ky al'.bQ (al'.out a x) (mJ al'.res st vs).2.aK al'.bQ ν,p):=fun h=>by
   obtain⟨al',h1,h2⟩:=J5 h;exact⟨al',by simp[h1],h2⟩
  simp only[wC]at h;split at h
  ·rename_i ν hν
   split at h
   ·rename_i b y hc hb hy
    simp only[av,cd,ef]at hc;obtain⟨h1,h2,h3⟩:=hc;have hall:=yQ h;have k3:al.ok a x/\y=al.out a x/\b=al.ret a x:=hall _ (List.mem_append_right _ ς);obtain⟨k4,k5,k6⟩:=k3;subst k5;subst k6;obtain⟨k1,_⟩:=lf.1 hall;obtain⟨k1,k2⟩:=lf.1 k1;exact⟨al,ς,ν,h1,h2,h3,k4,hb,hy,k1,k2⟩
   ·exact rest h
  ·exact rest h
def J6{B:Cx}{f:FuncId}{pre:CD args->PD aY->Prop}{alts:List (Alt aY args)}
  {O:aO}{st:St}{loc:Nat->Loc}{w:World}{akH:List dI}{vs:List Value}{K:SV->St->VC}(g:Good B.eT X (aD O st loc w))(hO:gx O w)(ha:dK B.eT (aD O st loc w) akH vs)
  {ν:List Nat}{a:CD args}{x:PD aY}(hnd:nodupB ν=φ)(hga:oC ψ st.aK aY ν args akH=ξ a)(hx:fI ψ st.aK aY ν aY ν=ξ x)
  (hp1:∀p∈oT aY x args akH,p)(hp2:∀p∈ky aY x st.aK aY ν,p)(hpre:pre a x)(hK:(Bz a x ν st K alts).holds)
  (hcall:J3 args a->∀(O':aO) (loc0:Nat->Loc),Good B.eT X (aD O' (mN aY args a x) loc0 w)->gx O' w->dK B.eT (aD O' (mN aY args a x) loc0 w) (Bn (jL aY x (upto 0 aY.length)) args a) vs->vs.length=args.length->
   Calls P f vs.toArray w fun e w'=>∃rs us' st' locE,e=.returned (xi us')/\(wC a x rs st' alts).holds/\dK B.eT (aD O' st' locE w') rs us'/\Good B.eT X (aD O' st' locE w')/\Tr (aD O' (mN aY args a x) loc0 w) (aD O' st' locE w')) :
  Calls P f vs.toArray w fun e w'=>∃v sv st' loc',e=.returned v/\(K sv st').holds/\st'.env=st.env/\Good B.eT X (aD O st' loc' w')/\
   Tr (aD O st loc w) (aD O st' loc' w')/\eK B.eT (aD O st' loc' w') sv v:=by
 have hvals:=JP g hx hga ha hp1;have hobsl:=rV hx
 let us:=upto 0 aY.length
 have hul:ν.length=us.length:=by rw[yR];exact hobsl.symm
 let O':aO:=fun b off=>O b off\/∃n oc,look st.aK n=ξ oc/\n∉ν/\b∈(loc n).bs/\oc.lo<=off
 let st0:=mN aY args a x
 have hOin':gx O' w:=by
  rintro b off (h|⟨n,oc,h1,_,h2,_⟩)
  ·exact hO b off h
  ·exact(g.obj n oc h1).2.inside b h2
 have hlo:∀n∈ν,∀oc,look st.aK n=ξ oc->wy aY=φ->oc.lo=0:=by
  intro n hn oc h1 h2;obtain⟨o,oc',y,k1,k2,k3⟩:=o6 hx hn;rw[h1]at k2;cases k2;have:=(ot k3 (fun _ =>.any)).2.2.2 (fun t=>J4 h2 k1) rfl;cases oc <;> first|rfl|exact(this _ _ rfl).elim
 have hν:∀n∈ν,∃oc,look st.aK n=ξ oc:=fun n hn=>let⟨_,oc,_,_,k,_⟩:=o6 hx hn;⟨oc,k⟩
 let loc0:=gR us (ν.map loc) loc
 have hf0:∀k oc,look st0.aK k=ξ oc->∃(i n:Nat) (o:Ob) (y:OD o) (oc0:OC),ν[i]?=ξ n/\us[i]?=ξ k/\aY[i]?=ξ o/\look st.aK n=ξ oc0/\l9 ψ st.aK aY ν o oc0=ξ y/\oc=um (jL aY x us) o y/\loc0 k=loc n:=by
  intro k oc hk;obtain⟨i,n,o,y,oc0,k1,k2,k3,k4,k5,k6,_⟩:=uJ hx (uI (X:=X) g hx hx hp2) hul hk;exact⟨i,n,o,y,oc0,k1,k2,k3,k4,k5,k6,mY (mZ _ _) k2 (by simp[k1])⟩
 have hA0:∀b o,(aD O' st0 loc0 w).A b o->(aD O st loc w).A b o:=by
  rintro b off ((h|⟨n,oc,h1,_,h2,h3⟩)|⟨k,oc,h1,h2,h3⟩)
  ·exact .inl h
  ·exact .inr ⟨n,oc,h1,h2,h3⟩
  ·obtain⟨i,n,o,y,oc0,_,_,_,k4,k5,k6,k7⟩:=hf0 k oc h1
   refine .inr ⟨n,oc0,k4,by simp only[aD]at h2;rw[k7]at h2;exact h2,?_⟩;rcases IX (f:=jL aY x us) k5 with e|e
   ·rw[<-e,<-k6];exact h3
   ·cases e
 have hown0:∀b,(aD O' st0 loc0 w).owns b->∃n∈ν,b∈(loc n).bs:=by
  rintro b ⟨k,oc,h1,h2⟩;obtain⟨i,n,o,y,oc0,k1,_,_,_,_,_,k7⟩:=hf0 k oc h1;exact⟨n,cf k1,by simp only[aD]at h2;rw[k7]at h2;exact h2⟩
 obtain⟨g0,laid0⟩:=Wo (X:=X) g hx hp2 hnd (O2:=O') (ν2:=us) (rest:=[]) (locR:=loc) (st2:=st0) (mZ _ _) hul
  (by simp[st0,mN,us]) (fun n hn=>by have:=vz hn;simp[st0,mN];omega)
  (fun n hn b hb off=>by
   obtain⟨oc,k⟩:=hν n hn;rintro(h|⟨m,oc',h1,h2,h3,_⟩)
   ·exact g.out n oc b off k hb h
   ·exact h2 (by rw[<-g.apart n m oc oc' b k h1 hb h3];exact hn))
  (fun n hn b hb m oc h=>by simp[look]at h) (fun m oc h=>by simp[look]at h) (fun m m' oc oc' b h=>by simp[look]at h) (fun m oc b off h=>by simp[look]at h) (.inr hA0)
  (fun b hb h=>by
   obtain⟨n,hn,hbn⟩:=hown0 b h;obtain⟨oc,k⟩:=hν n hn;exact g.nw.2 b hb ⟨n,oc,k,hbn⟩)
 have hargs:dK B.eT (aD O' st0 loc0 w) (Bn (jL aY x us) args a) vs:=Oi (S:=aD O st loc w) (S':=aD O' st0 loc0 w) rfl (fun k v hk=>Gn laid0 hk) (.inr hA0) hvals;have hcalls:=hcall (C5 hvals) O' loc0 g0 hOin' hargs (y8 hvals);refine hcalls.mono ?_;rintro e w' ⟨rs,us',st',locE,he,hk,hr,gE',trE'⟩;obtain⟨al,hal,ν',hnd',hkept,hcv,hokal,hret,hout,hc1,hc2⟩:=J5 hk;obtain⟨tF,gE,_,kF⟩:=y9 al.res rs gE';generalize hst2:(mJ al.res st' rs).2=st2 at*;generalize hrs2:(mJ al.res st' rs).1=rs2 at*;have trE:=trE'.trans tF;have hrE:=kF us' hr;have hKal:=GA hK al hal;unfold Nv at hKal;split at hKal
 case h_2=>exact hKal.elim
 rename_i hn1;simp only[av]at hn1;obtain⟨hnd1,hbel⟩:=hn1;have hKal:=hKal hokal;generalize hν1:pj aY al.bQ ν st.next=ν1 at*;have hl1:ν'.length=ν1.length:=by rw[<-hν1,sN];exact(rV hout).symm
 generalize hst1:({env:=st.env,aK:=oB (jL al.bQ (al.out a x) ν1) al.bQ (al.out a x) ν1++tR st.aK ν,next:=st.next+al.bQ.length}:St)=st1 at hKal;have h1env:st1.env=st.env:=by rw[<-hst1]
 have h1objs:st1.aK=oB (jL al.bQ (al.out a x) ν1) al.bQ (al.out a x) ν1++tR st.aK ν:=by rw[<-hst1]
 have h1next:st1.next=st.next+al.bQ.length:=by rw[<-hst1]
 let loc1:=gR ν1 (ν'.map locE) loc
 have hf1:∀m oc,look st1.aK m=ξ oc->(∃(i n:Nat) (o:Ob) (y:OD o) (oc0:OC),ν'[i]?=ξ n/\ν1[i]?=ξ m/\al.bQ[i]?=ξ o/\look st2.aK n=ξ oc0/\l9 al.cv st2.aK al.bQ ν' o oc0=ξ y/\
   oc=um (jL al.bQ (al.out a x) ν1) o y/\loc1 m=locE n)\/(m∉ν1/\m∉ν/\look st.aK m=ξ oc/\loc1 m=loc m):=by
  intro m oc hm;rw[h1objs,fT]at hm;split at hm
  ·rename_i oc' hm'
   cases hm;obtain⟨i,n,o,y,oc0,k1,k2,k3,k4,k5,k6,_⟩:=uJ hout (uI (X:=X) gE hout hout hc2) hl1 hm';exact .inl ⟨i,n,o,y,oc0,k1,k2,k3,k4,k5,k6,mY hnd1 k2 (by simp[k1])⟩
  ·rename_i hm'
   have hnin:m∉ν1:=fun hmem=>by
    obtain⟨oc1,h2⟩:=tM (f:=jL al.bQ (al.out a x) ν1) (x:=al.out a x) (by rw[<-hν1,sN]) hmem;rw[h2]at hm';cases hm'
   rw[o7]at hm;split at hm
   ·cases hm
   ·rename_i hmn
    exact .inr ⟨hnin,hmn,hm,ru hnin⟩
 have hownE:∀n∈ν',∀b∈(locE n).bs,(aD O' st2 locE w').owns b:=by
  intro n hn b hb;obtain⟨_,oc,_,_,k,_⟩:=o6 hout hn;exact⟨n,oc,k,hb⟩
 have hblk:∀m oc,look st.aK m=ξ oc->m∉ν->∀b∈(loc m).bs,¬(aD O' st0 loc0 w).owns b:=by
  intro m oc h1 h2 b hb' ho;obtain⟨n,hn,hbn⟩:=hown0 b ho;obtain⟨oc',k⟩:=hν n hn;have:=g.apart n m oc' oc b k h1 hbn hb';exact h2 (by rw[<-this];exact hn)
 have hA1:al.cv=ψ->∀b o,(aD O st1 loc1 w').A b o->(aD O' st2 locE w').A b o:=by
  rintro hcv0 b off (h|⟨m,oc,h1,h2,h3⟩)
  ·exact .inl (.inl h)
  ·rcases hf1 m oc h1 with⟨i,n,o,y,oc0,k1,k2,k3,k4,k5,k6,k7⟩|⟨k1,k2,k3,k4⟩
   ·refine .inr ⟨n,oc0,k4,by simp only[aD]at h2;rw[k7]at h2;exact h2,?_⟩
    rcases IX (f:=jL al.bQ (al.out a x) ν1) k5 with e|e
    ·rw[<-e,<-k6];exact h3
    ·rw[hcv0]at e;cases e
   ·exact .inl (.inr ⟨m,oc,k3,k2,by simp only[aD]at h2;rw[k4]at h2;exact h2,h3⟩)
 have hkeep:∀(m i:Nat),ν1[i]?=ξ m->m<st.next->∃o o',aY[i]?=ξ o/\al.bQ[i]?=ξ o'/\nL o o'=φ/\ν[i]?=ξ m:=by
  intro m i h1 h2;rw[<-hν1]at h1;rcases tS h1 with h3|h3
  ·exact h3
  ·omega
 have hT:Tr (aD O st loc w) (aD O st1 loc1 w'):={
  O:=rfl
  next:=by simp only[aD];omega
  os:=trE.os
  output:=trE.output
  size:=trE.size
  own:=by
   rintro b ⟨m,oc,h1,h2⟩;rcases hf1 m oc h1 with⟨i,n,o,y,oc0,k1,k2,k3,k4,k5,k6,k7⟩|⟨k1,k2,k3,k4⟩
   ·simp only[aD]at h2;rw[k7]at h2
    rcases trE.own b (hownE n (cf k1) b h2)with h3|h3
    ·obtain⟨n',hn',hb'⟩:=hown0 b h3
     obtain⟨oc',k⟩:=hν n' hn';exact .inl ⟨n',oc',k,hb'⟩
    ·exact .inr h3
   ·simp only[aD]at h2;rw[k4]at h2;exact .inl ⟨m,oc,k3,h2⟩
  cell:=by
   intro b off v hna hcell;obtain⟨h1,h2⟩:=trE.cell b off v (fun h=>hna (hA0 b off h)) hcell;refine⟨h1,fun h3 =>?_⟩;rcases hcv with hcv|⟨hnt,_,_⟩
   ·exact h2 (hA1 hcv b off h3)
   ·rcases h3 with h3|⟨m,oc,h3,h4,h5⟩
    ·exact hna (.inl h3)
    ·rcases hf1 m oc h3 with⟨i,n,o,y,oc0,k1,k2,k3,k4,k5,k6,k7⟩|⟨k1,k2,k3,k4⟩
     ·simp only[aD]at h4;rw[k7]at h4
      rcases trE.own b (hownE n (cf k1) b h4)with h6|h6
      ·obtain⟨n',hn',hb'⟩:=hown0 b h6
       obtain⟨oc',k⟩:=hν n' hn';exact hna (.inr ⟨n',oc',k,hb',by rw[hlo n' hn' oc' k hnt];exact ao _⟩)
      ·have:=fe _ _ hcell
       simp only[aD]at this h6;omega
     ·simp only[aD]at h4;rw[k4]at h4;exact hna (.inr ⟨m,oc,k3,h4,h5⟩)
  block:=fun b hb' ho=>trE.block b hb' fun h=>ho (by
   obtain⟨n,hn,hbn⟩:=hown0 b h;obtain⟨oc,k⟩:=hν n hn;exact⟨n,oc,k,hbn⟩)
  loc:=by
   intro m hm hfix;by_cases hin:m∈ν1
   ·obtain⟨i,hi⟩:=List.getElem?_of_mem hin
    obtain⟨o,o',e1,e2,e3,e4⟩:=hkeep m i hi hm;have tT:i<ν'.length:=by rw[hl1];exact bR hi
    have hn':ν'[i]?=ξ ν'[i]:=List.getElem?_eq_getElem tT;have hni:=Gz hkept e1 e2 e3 hn';rw[eg]at hni;have e5:loc1 m=locE i:=by
     have:=mY (d:=loc) hnd1 hi (ls:=ν'.map locE) (l:=locE i) (by simp[hn',hni]);exact this
    have hui:us[i]?=ξ i:=by have:=E4 aY.length 0 i (bR e1);simpa using this
    have e6:loc0 i=loc m:=mY (mZ _ _) hui (by simp[e4]);have e7:=trE.loc i (show i<st0.next by simp[st0,mN];exact bR e1) (fun t ys hy=>by
     obtain⟨j,n,o2,y,oc0,k1,k2,k3,k4,k5,k6,k7⟩:=hf0 i _ hy;have hj:j=i:=tN (mZ _ _) k2 hui;subst hj;rw[e1]at k3;cases k3;cases o <;> simp[um]at k6;cases o' <;> simp[nL]at e3)
    show(loc1 m).v=(loc m).v/\(_->loc1 m=loc m);rw[e5,<-e6];refine⟨e7.1,fun hr=>e7.2 fun t z hy =>?_⟩;obtain⟨j,n,o2,y,oc0,k1,k2,k3,k4,k5,k6,k7⟩:=hf0 i _ hy;have hj:j=i:=tN (mZ _ _) k2 hui;subst hj;rw[e4]at k1;cases k1;cases o2 <;> simp[um]at k6;obtain⟨rfl,rfl,_⟩:=k6;obtain⟨z',rfl⟩:=(ot k5 (fun _ =>.any)).2.1 _ _ rfl;exact hr _ _ k4
   ·exact qS (ru hin)
  kind:=by
   intro m oc' hm hob;rcases hf1 m oc' hob with⟨i,n,o,y,oc0,k1,k2,k3,k4,k5,k6,k7⟩|⟨k1,k2,k3,k4⟩
   ·obtain⟨o0,o',e1,e2,e3,e4⟩:=hkeep m i k2 hm
    rw[k3]at e2;cases e2;have hui:us[i]?=ξ i:=by have:=E4 aY.length 0 i (bR e1);simpa using this
    obtain⟨oc2,h2⟩:=tM (f:=jL aY x us) (x:=x) (ms:=us) (by rw[yR]) (cf hui);obtain⟨j,n2,o2,y2,oc3,j1,j2,j3,j4,j5,j6,j7⟩:=hf0 i oc2 (by simpa[st0,mN]using h2);have hj:j=i:=tN (mZ _ _) j2 hui;subst hj;rw[e1]at j3;cases j3;rw[e4]at j1;cases j1;refine⟨oc3,j4,?_⟩;cases o0 <;> cases o <;> simp[nL]at e3
    ·subst e3
     obtain⟨cs,rfl⟩:=(ot j5 (fun _ =>.any)).1 _ _ rfl;rw[k6];rfl
    ·rename_i kp t kp' t'
     cases kp <;> cases kp' <;> simp at e3;have e3:=Ty.eq_of_beq e3;subst e3;obtain⟨xs,rfl⟩:=(ot j5 (fun _ =>.any)).2.2.1 _ _ rfl rfl;rw[k6];rfl
    ·obtain⟨e3,e4⟩:=e3
     have e4:=Ty.eq_of_beq e4;subst e3;subst e4;obtain⟨z,rfl⟩:=(ot j5 (fun _ =>.any)).2.1 _ _ rfl;rw[k6];exact⟨rfl,rfl⟩
   ·refine⟨oc',k3,?_⟩
    cases oc' <;> simp[bL,aD,k4]}
 obtain⟨g1,laid1⟩:=Wo (X:=X) gE hout hc2 hnd' (O2:=O) (ν2:=ν1) (rest:=tR st.aK ν) (locR:=loc) (st2:=st1) hnd1 hl1 h1objs
  (fun n hn=>by rw[h1next];exact uq hbel hn)
  (fun n hn b hb' off h=>by
   obtain⟨_,oc,_,_,k,_⟩:=o6 hout hn;exact gE.out n oc b off k hb' (.inl h))
  (fun n hn b hb' m oc h1 h2 h3=>by
   rw[o7]at h1;split at h1
   ·cases h1
   ·rename_i hmn
    rcases trE.own b (hownE n hn b hb')with h4|h4
    ·exact hblk m oc h1 hmn b h3 h4
    ·have:=(g.obj m oc h1).2.inside b h3
     simp only[aD]at this h4;omega)
  (fun m oc h1 h2=>by
   rw[o7]at h1;split at h1
   ·cases h1
   ·rename_i hmn
    obtain⟨k1,k2⟩:=g.obj m oc h1;refine⟨by rw[h1next];simp only[aD]at k1;omega,k2.tr hT fun b hb' =>?_⟩;exact trE.block b (k2.inside b hb') (hblk m oc h1 hmn b hb'))
  (fun m m' oc oc' b h1 h2 _ _ h3 h4=>by
   rw[o7]at h1 h2;split at h1
   ·cases h1
   ·split at h2
    ·cases h2
    ·exact g.apart m m' oc oc' b h1 h2 h3 h4)
  (fun m oc b off h1 _ h2=>by
   rw[o7]at h1;split at h1
   ·cases h1
   ·exact g.out m oc b off h1 h2)
  (by
   rcases hcv with hcv|⟨_,hcv,_⟩
   ·exact .inr (hA1 hcv)
   ·exact .inl hcv)
  (g.nw.tr hT).2
 have hres:=JP gE hout hret hrE hc1;refine⟨_,_,st1,loc1,he,hKal,h1env,g1,hT,By (Oi (S:=aD O' st2 locE w') (S':=aD O st1 loc1 w') rfl (fun k v hk=>Gn laid1 hk) ?_ hres)⟩;rcases hcv with hcv|⟨_,_,hcv⟩
 ·exact .inr (hA1 hcv)
 ·exact .inl hcv
def ad1{B:Cx}{Γ:List (FuncId×(Bool×aL))}(hok:bH P B X Γ){f:FuncId}{fn:Func}{c:Code}(hf:P.funcs[f]?=ξ fn)(hb:fn.body=ξ c)(hN:args.length<=fn.ntmps){anns:CD args->PD aY->cP}
  {pre:CD args->PD aY->Prop}{alts:List (Alt aY args)}(h:∀a x,J3 args a->pre a x->(cE B Γ fn (anns a x) aY args alts a x).holds)
  {O:aO}{st:St}{loc:Nat->Loc}{w:World}{akH:List dI}{vs:List Value}{K:SV->St->VC}(g:Good B.eT X (aD O st loc w))(hO:gx O w)(ha:dK B.eT (aD O st loc w) akH vs)
  {ν:List Nat}{a:CD args}{x:PD aY}(hnd:nodupB ν=φ)(hga:oC ψ st.aK aY ν args akH=ξ a)(hx:fI ψ st.aK aY ν aY ν=ξ x)
  (hp1:∀p∈oT aY x args akH,p)(hp2:∀p∈ky aY x st.aK aY ν,p)(hpre:pre a x)(hK:(Bz a x ν st K alts).holds) :
  Calls P f vs.toArray w fun e w'=>∃v sv st' loc',e=.returned v/\(K sv st').holds/\st'.env=st.env/\Good B.eT X (aD O st' loc' w')/\
   Tr (aD O st loc w) (aD O st' loc' w')/\eK B.eT (aD O st' loc' w') sv v:=by
 refine J6 (B:=B) (pre:=pre) g hO ha hnd hga hx hp1 hp2 hpre hK fun hwf O' loc0 g0 hOin' hargs hlen =>?_
 have hcode:codeOf fn=c:=by unfold codeOf;rw[hb];rfl
 have hvc:=h a x hwf hpre;unfold cE at hvc;rw[hcode]at hvc;exact xj (X:=X) (hok fn.ntmps) hf hb (by rfl) (anns a x) (O:=O') (loc:=loc0) (w:=w) (args:=vs.toArray) (st:=mN aY args a x)
  (by rw[fg,hlen];exact hN) g0 hOin'
  (fun t sv ht=>by
   obtain⟨_,v,k1,k2⟩:=xk 0 hargs t sv ht;exact⟨v,by simpa using k1,k2⟩) hvc
def bA{B:Cx}{Γ:List (FuncId×(Bool×aL))}(hok:bH P B X Γ){f:FuncId}{fn:Func}(hf:P.funcs[f]?=ξ fn)(hg:rY fn args.length=φ)(anns:CD args->PD aY->cP)
  {pre:CD args->PD aY->Prop}{alts:List (Alt aY args)}(h:∀a x,J3 args a->pre a x->(cE B Γ fn (anns a x) aY args alts a x).holds) :
  aW P B.eT X f ψ (bU aY args pre alts):=by
 simp only[rY,av,ef]at hg;obtain⟨⟨h1,h2⟩,h3⟩:=hg;obtain⟨c,hc⟩:=Option.isSome_iff_exists.1 h1;refine⟨⟨fn,hf,by rw[hc];rfl,h2⟩,fun O st loc w akH vs K hK g hO ha =>?_⟩;unfold bU at hK;obtain⟨t1,g1,e1,k1⟩:=y9 args akH g;simp only at hK;split at hK
 case h_2=>exact hK.elim
 rename_i ν hν;split at hK
 case h_2=>exact hK.elim
 rename_i a x hnd hga hx;obtain⟨hp,hpre,hK⟩:=E2 hK;obtain⟨hp1,hp2⟩:=lf.1 hp;refine(ad1 hok hf hc (Nat.le_of_ble_eq_true h3) h g1 hO (k1 vs ha) hnd hga hx hp1 hp2 hpre hK).mono ?_;rintro e w' ⟨v,sv,st',loc',q1,q2,q3,q4,q5,q6⟩;exact⟨v,sv,st',loc',q1,q2,q3.trans e1,(fun hq=>by cases hq),q4,t1.trans q5,q6⟩
end
end Go.Vg

namespace Go.Vg
abbrev aA:=List UInt8
@[reducible] def aT:Ty:=.prod .str (.prod (.int .i64) (.prod .bool .unit))
@[reducible] def bE:Ty:=.prod (.int .i64) (.prod (.int .i64) .unit)
@[reducible] def aV:Ty:=.prod (.int .i64) (.prod (.int .i64) (.prod (.int .i64) (.prod .str (.prod .bool .unit))))
@[reducible] def aQ:Ty:=.prod (.int .i64) (.prod (.int .i64) (.prod (.int .i64) .unit))
@[reducible] def aJ:Ty:=.prod .str (.prod (.int .i64) (.prod (.int .i64) .unit))
@[reducible] def aB:Ty:=.prod (.slice .str) (.prod (.slice (.int .i64)) (.prod (.slice aT) (.prod (.slice aV) .unit)))
@[reducible] def aC:Ty:=.prod .str (.prod (.slice aJ) (.prod (.slice aQ) .unit))
@[reducible] def ad2:Ty:=.prod .str (.prod .str (.prod .str (.prod (.int .i64) (.prod (.int .u64) (.prod aC .unit)))))
@[reducible] def bS:Ty:=.prod .str (.prod (.int .i64) (.prod (.slice (.int .i64)) .unit))
@[reducible] def iJ:Ty:=.prod (.int .i64) (.prod .str .unit)
@[reducible] def agC:Ty:=.prod (.slice .str) (.prod (.slice .str) (.prod (.slice iJ) (.prod (.int .i64) (.prod .bool .unit))))
@[reducible] def dD:Ty:=.prod .str (.prod .str (.prod (.int .i64) .unit))
@[reducible] def Ur:Ty:=.prod (.slice dD) (.prod (.int .i64) .unit)
theorem bl :
  (∀(p:Prop) [Decidable p],(decide p=φ)=p)/\(∀(p:Prop) [Decidable p],(decide p=ψ)=¬p)/\
  (∀(α:Type) [BEq α] [LawfulBEq α] (a b:α),((a == b)=φ)=(a=b))/\(∀(α:Type) [BEq α] [LawfulBEq α] (a b:α),((a == b)=ψ)=¬a=b)/\
  (∀(α:Type) [BEq α] [LawfulBEq α] (a b:α),((a != b)=φ)=¬a=b)/\(∀(α:Type) [BEq α] [LawfulBEq α] (a b:α),((a != b)=ψ)=(a=b))/\
  (∀b:Bool,((!b)=φ)=(b=ψ))/\(∀b:Bool,((!b)=ψ)=(b=φ))/\(∀b:Bool,(¬b=φ)=(b=ψ))/\(∀b:Bool,(¬b=ψ)=(b=φ))/\
  (∀a b:Bool,((a&&b)=φ)=(a=φ/\b=φ))/\(∀a b:Bool,((a || b)=φ)=(a=φ\/b=φ))/\
  (∀a b:Bool,((a&&b)=ψ)=(a=ψ\/b=ψ))/\(∀a b:Bool,((a || b)=ψ)=(a=ψ/\b=ψ))/\
  (∀a b:Int,(¬a<b)=(b<=a))/\(∀a b:Int,(¬a<=b)=(b<a)):=by
 refine⟨?_,?_,?_,?_,?_,?_,?_,?_,?_,?_,?_,?_,?_,?_,?_,?_⟩ <;> intros <;> first|(simp;done)|(rename_i a b;cases a <;> cases b <;> simp)
end Go.Vg

namespace Go.Vg
open Go.RowKit
def ad3{w:World}{b i:Nat}{c:Array Value}{T:TypeId}{v:Value}(hb:w.heap[b]?=ξ (.cells c T (0,0))):(w.setCell ⟨b,i,χ⟩ v).heap[b]?=ξ (.cells (c.setIfInBounds i v) T (0,0)):=by
 simp[World.setCell,Array.getElem?_modify,hb]
def ahi{P:Program}{w:World}{t u ty e:TypeId}{i:TypeInfo}(ht:P.underlying t=ξ (.slice e))(hu:P.underlying u=ξ .string)(hi:P.info? e=ξ i)(hz:i.zero=ξ (.int .u8 0))
  (hsize:i.size=1)(hby:i.bytes=1){v:Value}{xs:List Value}(hown:w.ownsRow 0 e 1 v xs.length xs)(hcap:∀a n c,v=.slice (ξ a) n c->0<c)(s:ByteArray)(hlen:xs.length+s.size<=140737488355328) :
  ∃v' w',(fh #[t,u] ty #[v,.string s]).run P w=.ok v' w'/\w'.ownsRow 0 e 1 v' (xs.length+s.size) (xs++ds s)/\w.grownBy w' v.ownBlock/\(∀a n c,v'=.slice (ξ a) n c->0<c)/\
   (∀g,v'.ownBlock=ξ g->v.ownBlock=ξ g\/w.heap.size<=g):=by
 rcases hown.2 with⟨rfl,h0⟩|⟨g,cap,cur,rfl,hbg,hg,hnc,hcm,hcs,htake⟩
 ·have hown':w.ownsRow w.heap.size e 1 (.slice χ 0 0) xs.length xs:=⟨hown.1,.inl ⟨rfl,h0⟩⟩
  obtain⟨v',w',h1,h2,h3,h4⟩:=Lib.run_append_own_string (P:=P) w w.heap.size t u ty e i ht hu hi hz hsize hby _ _ _ hown' s (by unfold maxLen;omega) hlen (au _);rcases h2.2 with⟨rfl,h6⟩|⟨g,cap,cur,rfl,k1,k2,k3,k4⟩
  ·exact⟨_,w',h1,⟨h2.1,.inl ⟨rfl,h6⟩⟩,h3,(fun a n c hh=>by cases hh),(fun g hh=>by cases hh)⟩
  ·refine⟨_,w',h1,⟨h2.1,.inr ⟨g,cap,cur,rfl,ao _,k2,k3,k4⟩⟩,h3,fun a n c hh =>?_,fun g' hh=>by cases hh;exact .inr k1⟩
   cases hh;by_cases hs:s.size=0
   ·have:=h4.2 ⟨rfl,hs⟩;cases this
   ·omega
 ·have hc0:=hcap _ _ _ rfl
  by_cases hroom:xs.length+s.size<=cap
  ·obtain⟨w',h1,h2,h3⟩:=Lib.run_append_fits_string (P:=P) w 0 t u ty e i ht hu hi hsize _ _ _ _ hown s hc0 hroom
   exact⟨_,w',h1,h2,h3,(fun a n c hh=>by cases hh;exact hc0),(fun g' hh =>.inl hh)⟩
  ·have holds:∀j u,xs[j]?=ξ u->w.cell? ((⟨g,0,χ⟩:Addr).add j)=ξ u:=hown.cells (g:=g) rfl
   have hr:=Lib.run_append_grow_string (P:=P) w t u ty e i (.int .u8 0) ht hu hi hz ⟨g,0,χ⟩ xs.length cap xs (by rw[hsize];simp) holds s ω ω (by rw[hby];exact growslice_fits ω ω);have hge:=grownCap_ge w (xs.length+s.size) cap e;have hcm':grownCap w (xs.length+s.size) cap e<=maxLen:=grownCap_le_maxLen w (xs.length+s.size) cap e (by unfold maxLen;omega);refine⟨_,_,hr,⟨by simp[eh],.inr ⟨w.heap.size,_,_,rfl,ao _,heap_alloc_new w.drew _,hge,hcm',?_,?_⟩⟩,⟨rfl,rfl,rfl,ς,fun k hk _=>Go.Deep.blk_alloc_lt w.drew _ k hk⟩,(fun a n c hh=>by cases hh;omega),(fun g' hh=>by cases hh;exact .inr (au _))⟩
   ·have hz1:(bz c7 0).cells.size=1:=rfl
    simp only[Array.size_append,fg,size_zeroCells,hz1,eh];omega
   ·simp only[Array.toList_append,c8]
    rw[<-c8];have:(xs++ds s).length=(xs.length+s.size)*1:=by simp[eh]
    rw[<-this];exact List.take_left
def Du{P:Program}{w w':World}{ops:Array Oper}{rest:List Oper}{o:Oper}{a:Act}{Q:Exit->Act->World->Prop}(hgd:o.guard=χ)(sl x:Operand)(t u:TypeId)
  (ho:o.op=.call {callee:=.builtin .append,args:=#[sl,x],argTypes:=#[t,u]}){v v' y:Value}(hs:a.eval sl=v)(hx:a.eval x=y)
  (hr:(fh #[t,u] o.type #[v,y]).run P w=.ok v' w')(h:wpList P ops Q rest (a.put o.dst v') w'):wpList P ops Q (o :: rest) a w:=by
 refine wpList_plain hgd fun K hK =>?_
 unfold Oper.wp execOp;simp only[ho,resolve,invoke,builtin,Sem.run_bind,Sem.run_pure,Result.andThen_ok,List.map_toArray,aj,List.map_nil,hs,hx,hr];exact hK _ _ h
structure Kept (b:Nat) (v:Value) (w w':World):Prop where
 os:w'.os=w.os
 output:w'.output=w.output
 size:w.heap.size<=w'.heap.size
 block:∀k,k<w.heap.size->k≠b->v.ownBlock≠ξ k->w'.heap[k]?=w.heap[k]?
structure WC (v:Value) (w w':World):Prop where
 os:w'.os=w.os
 output:w'.output=w.output
 size:w'.heap.size=w.heap.size
 block:∀k,v.ownBlock≠ξ k->w'.heap[k]?=w.heap[k]?
def Sk{w:World}{g n c:Nat}{m:Nat}:WC (.slice (ξ ⟨g,0,χ⟩) n c) w (w.drew.freeze ⟨g,0,χ⟩ m):=by
 unfold World.freeze;split
 ·exact⟨rfl,rfl,rfl,fun _ _=>rfl⟩
 ·refine⟨rfl,rfl,ς,fun k hk =>?_⟩
  have:k≠g:=fun e=>hk (by rw[e];rfl)
  simp only[Array.getElem?_modify];rw[ε (fun e=>this e.symm)];rfl
def vD(T e:Nat):aL:=fun args st K=>
 match args with
 |[.one (.fS n),.one (.d .str s)]=>match look st.aK n with
  |some (.ext 2 t x)=>match h:Ty.beq t mI with
   |true =>.and ((dC h x).2.1=(T:Int)/\(dC h x).2.2.1=(e:Int)/\(dC h x).1.length+s.length<=140737488355328)
     (K (.pD [.one (.d (.int .i64) (s.length:Int)),.one (.d .err .nil)]) (setObj st n (.ext 2 mI ((dC h x).1++bW s,(T:Int),(e:Int),()))))
   |false =>.ff
  |_ =>.ff
 |_ =>.ff
def tU(T e:Nat):aL:=fun args st K=>
 match args with
 |[.one (.fS n)]=>match look st.aK n with
  |some (.ext 2 t x)=>match h:Ty.beq t mI with
   |true =>.and ((dC h x).2.1=(T:Int)/\(dC h x).2.2.1=(e:Int)) (K (.s (.one (.d .str (bytesOf (dC h x).1)))) (bN st n))
   |false =>.ff
  |_ =>.ff
 |_ =>.ff
def BA(T e:Nat):aL:=fun args st K=>
 match args with
 |[.one (.fS n)]=>match look st.aK n with
  |some (.ext 2 t x)=>match h:Ty.beq t mI with
   |true =>.and ((dC h x).2.1=(T:Int)/\(dC h x).2.2.1=(e:Int)) (K (.s (.one (.d (.int .i64) ((dC h x).1.length:Int)))) st)
   |false =>.ff
  |_ =>.ff
 |_ =>.ff
section
variable{P:Program}{eT:TypeId}{X:Ext}{f:FuncId}
def Ov{O:aO}{st:St}{loc:Nat->Loc}{w:World}(g:Good eT X (aD O st loc w)){n:Nat}{x:D mI}(hob:look st.aK n=ξ (.ext 2 mI x)){v:Value}(hv:CR eT (aD O st loc w) (.fS n) v) :
  ∃b p u,v=.pointer (ξ ⟨b,0,χ⟩)/\aiz x (loc n) w b p u:=by
 obtain⟨h0,b,p,u,hD⟩:=X.Y0.1 (g.obj n _ hob).2;exact⟨b,p,u,(hv.2 _ hob rfl).trans hD.lv,hD⟩
def zA(s:List UInt8):bytesOf (bW s)=s:=by
 induction s with
 |nil=>rfl
 |cons c r ih=>
  simp only[bytesOf,bW,aj,dt]at ih ⊢;rw[ih];simp
def WD{xs:List Int}(h:∀y∈xs,0<=(y:Int)/\(y:Int)<=255):bW (bytesOf xs)=xs:=by
 induction xs with
 |nil=>rfl
 |cons y r ih=>
  have h1:=h y ς;have h2:=ih fun z hz=>h z (by simp[hz])
  simp only[bW,bytesOf,dt,aj]at h2 ⊢;rw[h2];congr 1;simp only[fj];omega
def WE(s:List UInt8):∀y∈bW s,0<=(y:Int)/\(y:Int)<=255:=by
 intro y hy;simp only[bW,bj]at hy;obtain⟨c,_,rfl⟩:=hy;have:=c.toNat_lt;omega
def ad4{xs:List Int}(h:∀y∈xs,0<=(y:Int)/\(y:Int)<=255):xs.map (bz .u8)=(bytesOf xs).map fun c=>bz .u8 c.toNat:=by
 conv=>lhs;rw[<-WD h]
 simp[bW]
def GB{T e:Nat}(hfn:∃fn,P.funcs[f]?=ξ fn/\fn.body.isNone=ψ/\(fn.name == "runtime.NumGoroutine")=ψ)
  (H:∀(b:Nat) (p v:Value) (xs:List Value) (s:ByteArray) (w:World),w.heap[b]?=ξ (.cells #[p,v] T (0,0))->(p=.pointer χ\/p=.pointer (ξ ⟨b,0,χ⟩))->w.ownsRow 0 e 1 v xs.length xs->v.ownBlock≠ξ b->
   (∀a n c,v=.slice (ξ a) n c->0<c)->xs.length+s.size<=140737488355328->
   Calls P f #[.pointer (ξ ⟨b,0,χ⟩),.string s] w fun r w'=>r=.returned (.tuple #[.int .i64 s.size,.nilIface])/\
    ∃v',w'.heap[b]?=ξ (.cells #[.pointer (ξ ⟨b,0,χ⟩),v'] T (0,0))/\w'.ownsRow 0 e 1 v' (xs.length+s.size) (xs++ds s)/\v'.ownBlock≠ξ b/\Kept b v w w'/\
     (∀a n c,v'=.slice (ξ a) n c->0<c)/\(∀g,v'.ownBlock=ξ g->v.ownBlock=ξ g\/w.heap.size<=g)) :
  aW P eT X f ψ (vD T e):=by
 refine⟨hfn,fun O st loc w args vs K hs g hO ha =>?_⟩;unfold vD at hs;split at hs
 case h_2=>exact hs.elim
 rename_i n s;split at hs
 case h_2=>exact hs.elim
 rename_i t x hob;split at hs
 case h_2=>exact hs.elim
 rename_i ht;have ht':=Ty.eq_of_beq ht;subst ht';rw[l7]at hs;obtain⟨⟨hT,he,hlen⟩,hs⟩:=hs
 match vs,ha with
 |[v0,v1],.cons h0 (.cons h1 .nil)=>
 obtain⟨b,p,u,rfl,hD⟩:=Ov g hob h0;obtain⟨rfl,hsl⟩:=lJ.1 (show CR eT _ (.d .str s) v1 from h1);have hsz:(⟨s.toArray⟩:ByteArray).size=s.length:=by simp[ByteArray.size]
 have hT':x.2.1.toNat=T:=by rw[hT];rfl
 have he':x.2.2.1.toNat=e:=by rw[he];rfl
 have hheap:=hD.heap;have hrow:=hD.row;rw[hT']at hheap;rw[he']at hrow;refine(H b p u (x.1.map (bz .u8)) ⟨s.toArray⟩ w hheap hD.ptr (by simpa using hrow) hD.ne hD.cap (by simpa[hsz]using hlen)).mono ?_;rintro r w' ⟨rfl,v',k1,k2,k3,k4,k5,k6⟩;have hlt:b<w.heap.size:=(Array.getElem?_eq_some_iff.1 hheap).1;obtain⟨tr1,g1⟩:=sx (S:=aD O st loc w) (S':=aD O (setObj st n (.ext 2 mI (x.1++bW s,(T:Int),(e:Int),()))) (cK loc n ⟨.pointer (ξ ⟨b,0,χ⟩),b :: v'.ownBlock.toList⟩) w') (n:=n)
  (oc:=.ext 2 mI x) (oc':=.ext 2 mI (x.1++bW s,(T:Int),(e:Int),())) (l':=⟨.pointer (ξ ⟨b,0,χ⟩),b :: v'.ownBlock.toList⟩) g rfl hO hob
  (fun m=>rb st n m _) (fun _=>rfl) rfl (fun _=>⟨hD.lv.symm,fun h=>(h _ _ rfl).elim⟩) ⟨rfl,rfl⟩ k4.os k4.output k4.size
  (fun b' h1 h2=>k4.block b' h1 (fun e=>h2 (by simp only[aD];rw[hD.bs,e];simp)) (fun e=>h2 (by simp only[aD];rw[hD.bs,e];simp)))
  (fun b' o v _ ho=>by simp[OC.lo]at ho)
  (fun b' hb'=>by
   rcases ag.1 hb' with rfl|hb'
   ·exact .inl ⟨by simp only[aD];rw[hD.bs];simp,au _⟩
   ·have hb':v'.ownBlock=ξ b':=by simpa using hb'
    rcases k6 b' hb' with h|h
    ·exact .inl ⟨by simp only[aD];rw[hD.bs,h];simp,au _⟩
    ·exact .inr h)
 have g1:=g1 (X.Y0.2 ⟨rfl,b,.pointer (ξ ⟨b,0,χ⟩),v',rfl,.inr rfl,k1,by
  have e1:x.1.map (bz .u8)++ds ⟨s.toArray⟩=(x.1++bW s).map (bz .u8):=by rw[DB,ei]
  have e2:(x.1.map (bz .u8)).length+(⟨s.toArray⟩:ByteArray).size=(x.1++bW s).length:=by simp[hsz,bW]
  rw[e1,e2]at k2;exact k2,rfl,k3,(fun y hy=>by
   rcases ba.1 hy with h|h
   ·exact hD.u8 y h
   ·exact WE s y h),k5⟩)
 refine⟨_,_,_,_,rfl,hs,rfl,(fun hh=>by cases hh),g1,tr1,⟨[.int .i64 (⟨s.toArray⟩:ByteArray).size,.nilIface],rfl,.cons ?_ (.cons ?_ .nil)⟩⟩
 ·refine dL.2 ⟨by rw[hsz],?_⟩
  simp only[da,db,b5,b6];unfold aG at hsl;constructor <;> simp <;> omega
 ·exact qd.2 rfl
def WG{O:aO}{st:St}{loc:Nat->Loc}{w w':World}(g:Good eT X (aD O st loc w)){n:Nat}{oc0:OC}(hn:look st.aK n=ξ oc0)(h0:oc0.lo=0)
  (hos:w'.os=w.os)(hout:w'.output=w.output)(hsz:w.heap.size<=w'.heap.size)(hb:∀b,b<w.heap.size->b∉(loc n).bs->w'.heap[b]?=w.heap[b]?) :
  Tr (aD O st loc w) (aD O (bN st n) loc w')/\Good eT X (aD O (bN st n) loc w'):=by
 have hob:∀m oc,look (bN st n).aK m=ξ oc->m≠n/\look st.aK m=ξ oc:=by
  intro m oc h;simp only[bN]at h;rw[oA]at h;split at h
  ·cases h
  ·rename_i hne;exact⟨fun e=>hne e.symm,h⟩
 have hA:∀b o,(aD O (bN st n) loc w').A b o->(aD O st loc w).A b o:=by
  rintro b o (h|⟨m,oc,h1,h2⟩)
  ·exact .inl h
  ·exact .inr ⟨m,oc,(hob _ _ h1).2,h2⟩
 have ht:Tr (aD O st loc w) (aD O (bN st n) loc w'):={
  O:=rfl
  next:=au _
  os:=hos
  output:=hout
  size:=hsz
  own:=fun b h=>by obtain⟨m,oc,h1,h2⟩:=h;exact .inl ⟨m,oc,(hob _ _ h1).2,h2⟩
  cell:=fun b o v h1 h2=>by
   have hlt:=fe w _ h2;refine⟨?_,fun h=>h1 (hA b o h)⟩;show w'.cell? _=_;rw[World.cell?_of_block (w:=w) (w':=w') (a:=⟨b,o,χ⟩) (hb b hlt fun hm=>h1 (.inr ⟨n,oc0,hn,hm,by rw[h0];exact ao _⟩))];exact h2
  block:=fun b h1 h2=>hb b h1 fun hm=>h2 ⟨n,oc0,hn,hm⟩
  loc:=fun _ _ _=>qS rfl
  kind:=fun m oc _ h=>⟨oc,(hob _ _ h).2,by cases oc <;> simp[bL,aD]⟩}
 refine⟨ht,⟨fun m oc h =>?_,fun m1 m2 oc1 oc2 b h1 h2 h3 h4 =>?_,fun m oc b off h1 h2 =>?_,g.nw.tr ht⟩⟩
 ·obtain⟨hne,h⟩:=hob _ _ h
  obtain⟨h1,h2⟩:=g.obj m oc h;exact⟨h1,h2.tr ht fun b hbm=>hb b (h2.inside b hbm) fun hbn=>hne (g.apart m n oc oc0 b h hn hbm hbn)⟩
 ·exact g.apart m1 m2 oc1 oc2 b (hob _ _ h1).2 (hob _ _ h2).2 h3 h4
 ·exact g.out m oc b off (hob _ _ h1).2 h2
def E6{T e:Nat}(hfn:∃fn,P.funcs[f]?=ξ fn/\fn.body.isNone=ψ/\(fn.name == "runtime.NumGoroutine")=ψ)
  (H:∀(b:Nat) (p v:Value) (l:List UInt8) (w:World),w.heap[b]?=ξ (.cells #[p,v] T (0,0))->w.ownsRow 0 e 1 v l.length (l.map fun c=>bz .u8 c.toNat)->(∀a n c,v=.slice (ξ a) n c->0<c)->
   Calls P f #[.pointer (ξ ⟨b,0,χ⟩)] w fun r w'=>r=.returned (.string ⟨l.toArray⟩)/\WC v w w') :
  aW P eT X f ψ (tU T e):=by
 refine⟨hfn,fun O st loc w args vs K hs g hO ha =>?_⟩;unfold tU at hs;split at hs
 case h_2=>exact hs.elim
 rename_i n;split at hs
 case h_2=>exact hs.elim
 rename_i t x hob;split at hs
 case h_2=>exact hs.elim
 rename_i ht;have ht':=Ty.eq_of_beq ht;subst ht';rw[l7]at hs;obtain⟨⟨hT,he⟩,hs⟩:=hs
 match vs,ha with
 |[v0],.cons h0 .nil=>
 obtain⟨b,p,u,rfl,hD⟩:=Ov g hob h0;have hT':x.2.1.toNat=T:=by rw[hT];rfl
 have he':x.2.2.1.toNat=e:=by rw[he];rfl
 have hheap:=hD.heap;have hrow:=hD.row;rw[hT']at hheap;rw[he',ad4 hD.u8,show x.1.length=(bytesOf x.1).length by simp[bytesOf]]at hrow;refine(H b p u (bytesOf x.1) w hheap hrow hD.cap).mono ?_;rintro r w' ⟨rfl,k⟩;obtain⟨tr1,g1⟩:=WG (w':=w') g hob rfl k.os k.output (by rw[k.size];exact au _) (fun b' _ h2=>k.block b' fun e=>h2 (by rw[hD.bs,e];simp));refine⟨_,_,_,_,rfl,hs,rfl,(fun hh=>by cases hh),g1,tr1,?_⟩;refine(lJ (eT:=eT) (S:=aD O (bN st n) loc w')).2 ⟨rfl,?_⟩;rcases hrow.2 with⟨_,h⟩|⟨_,cap,_,_,_,_,h1,h2,_⟩
 ·rw[h];exact ao _
 ·unfold maxLen at h2;unfold aG;omega
def M7{T e:Nat}(hfn:∃fn,P.funcs[f]?=ξ fn/\fn.body.isNone=ψ/\(fn.name == "runtime.NumGoroutine")=ψ)
  (H:∀(b:Nat) (p q:Value) (a:Option Addr) (n c:Nat) (w:World),w.heap[b]?=ξ (.cells #[p,.slice a n c] T (0,0))->
   Calls P f #[.pointer (ξ ⟨b,0,χ⟩)] w fun r w'=>r=.returned (.int .i64 n)/\w'=w) :
  aW P eT X f φ (BA T e):=by
 refine⟨hfn,fun O st loc w args vs K hs g hO ha =>?_⟩;unfold BA at hs;split at hs
 case h_2=>exact hs.elim
 rename_i n;split at hs
 case h_2=>exact hs.elim
 rename_i t x hob;split at hs
 case h_2=>exact hs.elim
 rename_i ht;have ht':=Ty.eq_of_beq ht;subst ht';rw[l7]at hs;obtain⟨⟨hT,he⟩,hs⟩:=hs
 match vs,ha with
 |[v0],.cons h0 .nil=>
 obtain⟨b,p,u,rfl,hD⟩:=Ov g hob h0;have hT':x.2.1.toNat=T:=by rw[hT];rfl
 have hheap:=hD.heap;rw[hT']at hheap;obtain⟨a,c,rfl,hl⟩:∃a c,u=.slice a x.1.length c/\x.1.length<=aG:=by
  rcases hD.row.2 with⟨rfl,h⟩|⟨g',cap,cur,h,_,_,h1,h2,_⟩
  ·exact⟨χ,0,by rw[h],by rw[h];exact ao _⟩
  ·exact⟨_,_,h,by unfold maxLen at h2;unfold aG;omega⟩
 refine(H b p p a x.1.length c w hheap).mono ?_;rintro r w' ⟨rfl,rfl⟩;refine⟨_,_,_,loc,rfl,hs,rfl,fun _=>Below.refl _ _,g,Tr.refl _,?_⟩;refine(dL (eT:=eT) (S:=aD O st loc w')).2 ⟨rfl,?_⟩;unfold aG at hl;simp only[da,db,b5,b6];constructor <;> simp <;> omega
end
end Go.Vg

namespace Go.Mrl
open Go.Vg
def small(c:UInt8):Bool:=ρ ((97:Int)<=c.toNat)&&ρ ((c.toNat:Int)<=122)
def other(c:UInt8):Bool:=(ρ ((48:Int)<=c.toNat)&&ρ ((c.toNat:Int)<=57)) || ((c.toNat:Int) == 95)
def kR(i:Nat)(c:UInt8):Bool:=!small c&&((i:Int) == 0 || !other c)
def xY(s:aA):Bool:=(b7 s.length).any fun i=>kR i (bV s i)
def aN(s:aA):Int:=if s.length<1\/8<s.length then 1 else if xY s=φ then 3 else 0
def aP(n:Int):aR:=if n=0 then .nil else .no n
def nf:aR->Int->Bool
 |.nil,n=>n == 0
 |.no m,n=>ρ (n > 0)&&m == n
 |.other,_=>ψ
def jB:aR->Int
 |.nil=>0
 |.no m=>m
 |.other =>-1
def cO(s:aA):0<=aN s:=by
 unfold aN;split
 ·decide
 ·split <;> decide
def Sl{s:aA}{i:Nat}(h:i<s.length)(hb:kR i (bV s i)=φ):xY s=φ:=by
 simp only[xY,cg,dc];exact⟨i,h,hb⟩
def Ow{s:aA}(h:∀i,i<s.length->kR i (bV s i)=ψ):xY s=ψ:=by
 simp only[xY,dd,dc];intro i hi;rw[h i hi];simp
def BB{s:aA}{i:Nat}(h:i<s.length):s[i]?=ξ (bV s i):=by
 rw[xJ (List.getElem?_eq_getElem h),List.getElem?_eq_getElem h]
def AI{s:aA}(h:s.length<1\/8<s.length):aN s=1:=by unfold aN;rw[π h]
def ke{s:aA}{i:Nat}(h:¬(s.length<1\/8<s.length))(hi:i<s.length)(hb:kR i (bV s i)=φ):aN s=3:=by
 unfold aN;rw[ε h,π (Sl hi hb)]
def xZ{s:aA}(h:¬(s.length<1\/8<s.length))(hb:∀i,i<s.length->kR i (bV s i)=ψ):aN s=0:=by
 unfold aN;rw[ε h,ε (by rw[Ow hb];decide)]
def ou{i:Nat}{c:UInt8}:kR i c=φ↔¬(97<=c.toNat/\c.toNat<=122)/\(i=0\/¬((48<=c.toNat/\c.toNat<=57)\/c.toNat=95)):=by
 simp only[kR,small,other,av,ef,Bool.and_eq_false_iff,cd,ej,decide_eq_false_iff_not,beq_iff_eq,beq_eq_false_iff_ne];omega
def nA{i:Nat}{c:UInt8}:kR i c=ψ↔¬(¬(97<=c.toNat/\c.toNat<=122)/\(i=0\/¬((48<=c.toNat/\c.toNat<=57)\/c.toNat=95))):=by
 rw[<-ou];simp
def rh{s:aA}{i:Nat}(h:∀j,j<i->kR j (bV s j)=ψ)(hb:kR i (bV s i)=ψ):∀j,j<i+1->kR j (bV s j)=ψ:=by
 intro j hj;rcases br j i with hlt|hge
 ·exact h j hlt
 ·obtain rfl:j=i:=by omega
  exact hb
def pN(h:Nat)(c:UInt8):Nat:=((16*h+c.toNat) % 4294967296 % 268435456)^^^(16*((16*h+c.toNat) % 4294967296 / 268435456))
def jt(s:aA):Nat:=s.foldl pN 0
def Sm(h:Nat)(c:UInt8):pN h c<268435456:=by
 unfold pN;have h1:(16*h+c.toNat) % 4294967296 % 268435456<2^28:=ch _ δ;have h2:16*((16*h+c.toNat) % 4294967296 / 268435456)<2^28:=by
  have:(16*h+c.toNat) % 4294967296<4294967296:=ch _ δ;omega
 exact de h1 h2
def E7(s:aA):jt s<268435456:=by
 rcases List.eq_nil_or_concat s with rfl|⟨l,a,rfl⟩
 ·decide
 ·simp only[jt,List.concat_eq_append,fk,List.foldl_cons,List.foldl_nil];exact Sm _ _
def GC{s:aA}{i:Nat}(h:i<s.length):jt (s.take (i+1))=pN (jt (s.take i)) (bV s i):=by
 rw[cr,BB h];simp[jt]
def bv_and{n a b:Nat}(ha:a<2^n):(ak n (a:Int)&&&ak n (b:Int)).toNat=a&&&b % 2^n:=by
 simp[du,ct ha]
def ZE{n a b:Nat}(ha:a<2^n)(hb:b<2^n):(ak n (a:Int)^^^ak n (b:Int)).toNat=a^^^b:=by
 simp[du,ct ha,ct hb]
def GD{a:Nat}(h:a<4294967296):cj.wrap (a:Int)=a:=sC (by simp[da,db,b5,b6];omega)
def aiY{a:Nat}(h:a<9223372036854775808):ek.wrap (a:Int)=a:=sC (by simp[da,db,b5,b6];omega)
def ahj(a:Nat):cj.wrap (a:Int)=((a % 4294967296:Nat):Int):=by
 simp[aw,b5,b6]
 try omega
def ZF{x:Nat}(hx:x<4294967296):x&&&4026531840=268435456*(x / 268435456):=by
 apply fl;intro i;rw[fm,show(4026531840:Nat)=2^28*(2^4-1)from by decide,show(268435456:Nat)=2^28 from by decide,en,en,Nat.testBit_two_pow_sub_one,fo];by_cases h:28<=i
 ·rw[show i-28+28=i from by omega]
  by_cases h2:i-28<4
  ·simp[h,h2]
  ·rw[fp (x:=x) (i:=i) (eo hx (ep (n:=2) (i:=32) (j:=i) δ ω))];simp
 ·simp[h]
def ZG{x:Nat}(hx:x<4294967296):(ak 32 ((x^^^16*(x / 268435456):Nat):Int)&&&~~~ ak 32 ((268435456*(x / 268435456):Nat):Int)).toNat=(x % 268435456)^^^(16*(x / 268435456)):=by
 have hq:x / 268435456<16:=by omega
 have h1:x^^^16*(x / 268435456)<2^32:=de hx ω;rw[fq,BitVec.toNat_not,du,du,fr,fr,ct h1,ct ω];apply fl;intro i;rw[show 2^32-1-268435456*(x / 268435456)=2^32-(268435456*(x / 268435456)+1)from by omega,fm,Nat.testBit_two_pow_sub_succ ω,fs,fs,
  show(268435456:Nat)=2^28 from by decide,Nat.testBit_mod_two_pow,en,fo]
 by_cases h:i<28
 ·simp[h,show ¬28<=i from by omega,show i<32 from by omega]
 ·have h16:(16*(x / 2^28)).testBit i=ψ:=by
   apply fp;exact eo (show _<2^28 by omega) (ep δ ω)
  rw[h16];by_cases h2:i<32
  ·simp[h,h2,show 28<=i from by omega]
  ·simp[h,h2]
def ZH{h:Nat}{c:UInt8}(hh:h<268435456){x1 x3 x4 x5 x6 x7:Int}
  (e1:x1=aw cj ((h:Int)*(2:Int)^min (az (4:Int)) 32))(e3:x3=aw cj (x1+(c.toNat:Int)))
  (e4:x4=aw cj (((ak 32 x3&&&ak 32 (4026531840:Int)).toNat:Nat):Int))
  (e5:x5=Int.fdiv x4 ((2:Int)^min (az (24:Int)) 32))
  (e6:x6=aw cj (((ak 32 x3^^^ak 32 x5).toNat:Nat):Int))
  (e7:x7=aw cj (((ak 32 x6&&&~~~ak 32 x4).toNat:Nat):Int)) :
  x7=(pN h c:Int):=by
 have hc:=c.toNat_lt;have h1:x1=((16*h:Nat):Int):=by
  rw[e1,show(h:Int)*(2:Int)^min (az (4:Int)) 32=((16*h:Nat):Int)from by rw[show min (az (4:Int)) 32=4 from by decide];omega,GD ω]
 have h3:x3=(((16*h+c.toNat) % 4294967296:Nat):Int):=by
  rw[e3,h1,show((16*h:Nat):Int)+(c.toNat:Int)=((16*h+c.toNat:Nat):Int)from by omega,ahj]
 generalize hx:(16*h+c.toNat) % 4294967296=x at h3;have hxl:x<4294967296:=by omega
 have h4:x4=((268435456*(x / 268435456):Nat):Int):=by
  rw[e4,h3,show(4026531840:Int)=((4026531840:Nat):Int)from rfl,bv_and ω,show(4026531840:Nat) % 2^32=4026531840 from by decide,ZF hxl,GD ω]
 have h5:x5=((16*(x / 268435456):Nat):Int):=by
  rw[e5,h4,show min (az (24:Int)) 32=24 from by decide,ft _ δ];omega
 have hxor:x^^^16*(x / 268435456)<2^32:=de hxl ω;have h6:x6=((x^^^16*(x / 268435456):Nat):Int):=by
  rw[e6,h3,h5,ZE ω ω,GD hxor]
 have hlow:(x % 268435456)^^^(16*(x / 268435456))<2^28:=de (ch _ δ) ω;rw[e7,h6,h4,ZG hxl,GD ω];unfold pN;rw[hx]
def rh3{h:Nat}{c:UInt8}{x1 x3:Int}(e1:x1=16*(h:Int))(e3:x3=(x1+(c.toNat:Int)).tmod 4294967296):x3=(((16*h+c.toNat) % 4294967296:Nat):Int):=by
 rw[e3,e1,dv ω];omega
def rh4{x:Nat}{x3 x4:Int}(h3:x3=(x:Int))(e4:x4=x3.tdiv 268435456):x4=((x / 268435456:Nat):Int):=by
 rw[e4,h3,Int.tdiv_eq_ediv_of_nonneg ω];omega
def WH{h:Nat}{c:UInt8}{x1 x3 x4 x5 x6 x7:Int}(e1:x1=16*(h:Int))(e3:x3=(x1+(c.toNat:Int)).tmod 4294967296)(e4:x4=x3.tdiv 268435456)(e5:x5=x3.tmod 268435456)
  (e6:x6=16*x4)(e7:x7=aw ek (((ak 64 x5^^^ak 64 x6).toNat:Nat):Int)):x7=(pN h c:Int):=by
 have hc:=c.toNat_lt;have h3:=rh3 e1 e3;generalize hx:(16*h+c.toNat) % 4294967296=x at h3;have hxl:x<4294967296:=by omega
 have h4:=rh4 h3 e4;have h5:x5=((x % 268435456:Nat):Int):=by rw[e5,h3,dv ω];omega
 have h6:x6=((16*(x / 268435456):Nat):Int):=by rw[e6,h4];omega
 have hlow:(x % 268435456)^^^(16*(x / 268435456))<2^28:=de (ch _ δ) ω;rw[e7,h5,h6,ZE ω ω,aiY ω];unfold pN;rw[hx]
def iX(p:D aT->Prop)(l:List (D aB))(i k:Nat):Prop:=
 i<l.length/\k<(nth aB l i).2.2.1.length/\p (nth aT (nth aB l i).2.2.1 k)
def AJ(s:aA)(x:D aT):Prop:=x.1=s
def nW(s:aA)(x:D aT):Prop:=x.1=s/\x.2.2.1=ψ
def ahead(i k i' k':Nat):Prop:=i<i'\/(i=i'/\k<k')
def x8(p:D aT->Prop)(l:List (D aB))(i k:Nat):Prop:=∀i' k',ahead i' k' i k->¬iX p l i' k'
def oW(p:D aT->Prop)(l:List (D aB))(i k:Nat):Prop:=iX p l i k/\x8 p l i k
def BC{p:D aT->Prop}{l:List (D aB)}{i k i' k':Nat}(h:oW p l i k)(h':oW p l i' k'):i=i'/\k=k':=by
 have h1:¬ahead i k i' k':=fun a=>h'.2 i k a h.1
 have h2:¬ahead i' k' i k:=fun a=>h.2 i' k' a h'.1
 unfold ahead at h1 h2;omega
def BD{p:D aT->Prop}{l:List (D aB)}{i k:Nat}(h:iX p l i k):∃i k,oW p l i k:=by
 have hi:∀n,∀i,i<=n->∀k,iX p l i k->∃i,(∃k,iX p l i k)/\∀j,j<i->∀k,¬iX p l j k:=by
  intro n;induction n with
  |zero=>intro i hi k h;exact⟨i,⟨k,h⟩,fun j hj=>by omega⟩
  |succ n ih=>
   intro i hi k h;by_cases c:∃j,j<i/\∃k,iX p l j k
   ·obtain⟨j,hj,k,hk⟩:=c
    exact ih j ω k hk
   ·exact⟨i,⟨k,h⟩,fun j hj k hk=>c ⟨j,hj,k,hk⟩⟩
 obtain⟨i0,⟨k0,h0⟩,hmin⟩:=hi i i (au _) k h;have hk:∀n,∀k,k<=n->iX p l i0 k->∃k,iX p l i0 k/\∀j,j<k->¬iX p l i0 j:=by
  intro n;induction n with
  |zero=>intro k hk h;exact⟨k,h,fun j hj=>by omega⟩
  |succ n ih=>
   intro k hk h;by_cases c:∃j,j<k/\iX p l i0 j
   ·obtain⟨j,hj,h2⟩:=c
    exact ih j ω h2
   ·exact⟨k,h,fun j hj h2=>c ⟨j,hj,h2⟩⟩
 obtain⟨k1,h1,h2⟩:=hk k0 k0 (au _) h0;refine⟨i0,k1,h1,fun i' k' ha hp =>?_⟩;rcases ha with ha|⟨rfl,ha⟩
 ·exact hmin i' ha k' hp
 ·exact h2 k' ha hp
open Classical in
def eE(x:List (D aB)×aA):Int×Int:=
 if h:∃p:Nat×Nat,oW (nW x.2) x.1 p.1 p.2 then(((cu h).1:Nat),((cu h).2:Nat))
 else if h:∃p:Nat×Nat,oW (AJ x.2) x.1 p.1 p.2 then(((cu h).1:Nat),((cu h).2:Nat))
 else(-1,-1)
def vE{l:List (D aB)}{s:aA}{i k:Nat}(h:oW (nW s) l i k):eE (l,s)=((i:Int),(k:Int)):=by
 have hx:∃p:Nat×Nat,oW (nW s) l p.1 p.2:=⟨(i,k),h⟩
 unfold eE;rw[dif_pos hx];have:=BC h (dw hx);rw[<-this.1,<-this.2]
def zB{l:List (D aB)}{s:aA}{i k:Nat}(hn:∀i k,¬iX (nW s) l i k)(h:oW (AJ s) l i k):eE (l,s)=((i:Int),(k:Int)):=by
 have hx:∃p:Nat×Nat,oW (AJ s) l p.1 p.2:=⟨(i,k),h⟩
 unfold eE;rw[dif_neg (fun⟨p,h⟩=>hn p.1 p.2 h.1),dif_pos hx];have:=BC h (dw hx);rw[<-this.1,<-this.2]
def zC{l:List (D aB)}{s:aA}(hn:∀i k,¬iX (AJ s) l i k):eE (l,s)=(-1,-1):=by
 unfold eE;rw[dif_neg (fun⟨p,h⟩=>hn p.1 p.2 ⟨h.1.1,h.1.2.1,h.1.2.2.1⟩),dif_neg (fun⟨p,h⟩=>hn p.1 p.2 h.1)]
def Sn(l:List (D aB))(s:aA):(∃i k:Nat,eE (l,s)=((i:Int),(k:Int))/\oW (nW s) l i k)\/
  (∃i k:Nat,eE (l,s)=((i:Int),(k:Int))/\oW (AJ s) l i k/\∀i k,¬iX (nW s) l i k)\/
  (eE (l,s)=(-1,-1)/\∀i k,¬iX (AJ s) l i k):=by
 by_cases h1:∃i k,iX (nW s) l i k
 ·obtain⟨i,k,h⟩:=h1
  obtain⟨i,k,h⟩:=BD h;exact .inl ⟨i,k,vE h,h⟩
 ·have h1':∀i k,¬iX (nW s) l i k:=fun i k h=>h1 ⟨i,k,h⟩
  by_cases h2:∃i k,iX (AJ s) l i k
  ·obtain⟨i,k,h⟩:=h2
   obtain⟨i,k,h⟩:=BD h;exact .inr (.inl ⟨i,k,zB h1' h,h,h1'⟩)
  ·have h2':∀i k,¬iX (AJ s) l i k:=fun i k h=>h2 ⟨i,k,h⟩
   exact .inr (.inr ⟨zC h2',h2'⟩)
def kM(l:List (D aB))(s:aA)(i k:Nat)(a b:Int):Prop:=
 x8 (nW s) l i k/\((a= -1/\b= -1/\x8 (AJ s) l i k)\/∃i0 k0:Nat,a=i0/\b=k0/\oW (AJ s) l i0 k0)
def kM.start(l:List (D aB))(s:aA):kM l s 0 0 (-1) (-1):=
 ⟨fun i' k' h=>by unfold ahead at h;omega,.inl ⟨rfl,rfl,fun i' k' h=>by unfold ahead at h;omega⟩⟩
def x8.next{p:D aT->Prop}{l:List (D aB)}{i k:Nat}(h:x8 p l i k)(hn:¬iX p l i k):x8 p l i (k+1):=by
 intro i' k' ha hp;by_cases e:i'=i/\k'=k
 ·rw[e.1,e.2]at hp;exact hn hp
 ·exact h i' k' (by unfold ahead at*;omega) hp
def kM.skip{l:List (D aB)}{s:aA}{i k:Nat}{a b:Int}(h:kM l s i k a b)(hn:¬(nth aT (nth aB l i).2.2.1 k).1=s):kM l s i (k+1) a b:=by
 refine⟨h.1.next fun hp=>hn hp.2.2.1,?_⟩;rcases h.2 with⟨h1,h2,h3⟩|h3
 ·exact .inl ⟨h1,h2,h3.next fun hp=>hn hp.2.2⟩
 ·exact .inr h3
def kM.aiZ{l:List (D aB)}{s:aA}{i k:Nat}{a b:Int}(h:kM l s i k a b)(hi:i<l.length)(hk:k<(nth aB l i).2.2.1.length)
  (hs:(nth aT (nth aB l i).2.2.1 k).1=s)(hw:(nth aT (nth aB l i).2.2.1 k).2.2.1=ψ):eE (l,s)=((i:Int),(k:Int)):=
 vE ⟨⟨hi,hk,hs,hw⟩,h.1⟩
def kM.IU{l:List (D aB)}{s:aA}{i k:Nat}{a b:Int}(h:kM l s i k a b)(hi:i<l.length)(hk:k<(nth aB l i).2.2.1.length)
  (hs:(nth aT (nth aB l i).2.2.1 k).1=s)(hw:¬(nth aT (nth aB l i).2.2.1 k).2.2.1=ψ)(ha:a<0):kM l s i (k+1) (i:Int) (k:Int):=by
 refine⟨h.1.next fun hp=>hw hp.2.2.2,.inr ⟨i,k,rfl,rfl,⟨hi,hk,hs⟩,?_⟩⟩;rcases h.2 with⟨_,_,h3⟩|⟨i0,k0,h1,_⟩
 ·exact h3
 ·omega
def kM.more{l:List (D aB)}{s:aA}{i k:Nat}{a b:Int}(h:kM l s i k a b)
  (hw:¬(nth aT (nth aB l i).2.2.1 k).2.2.1=ψ)(ha:¬a<0):kM l s i (k+1) a b:=by
 refine⟨h.1.next fun hp=>hw hp.2.2.2,?_⟩;rcases h.2 with⟨h1,_,_⟩|h3
 ·omega
 ·exact .inr h3
def x8.row{p:D aT->Prop}{l:List (D aB)}{i k:Nat}(h:x8 p l i k)(hk:(nth aB l i).2.2.1.length<=k):x8 p l (i+1) 0:=by
 intro i' k' ha hp;refine h i' k' ?_ hp;unfold ahead at*;by_cases e:i'=i
 ·subst e;have:=hp.2.1;omega
 ·omega
def kM.row{l:List (D aB)}{s:aA}{i k:Nat}{a b:Int}(h:kM l s i k a b)(hk:(nth aB l i).2.2.1.length<=k):kM l s (i+1) 0 a b:=by
 refine⟨h.1.row hk,?_⟩;rcases h.2 with⟨h1,h2,h3⟩|h3
 ·exact .inl ⟨h1,h2,h3.row hk⟩
 ·exact .inr h3
def x8.all{p:D aT->Prop}{l:List (D aB)}{i k:Nat}(h:x8 p l i k)(hi:l.length<=i):∀i k,¬iX p l i k:=
 fun i' k' hp=>h i' k' (by have:=hp.1;unfold ahead;omega) hp
def kM.done{l:List (D aB)}{s:aA}{i k:Nat}{a b:Int}(h:kM l s i k a b)(hi:l.length<=i):eE (l,s)=(a,b):=by
 rcases h.2 with⟨rfl,rfl,h3⟩|⟨i0,k0,rfl,rfl,h3⟩
 ·exact zC (h3.all hi)
 ·exact zB (h.1.all hi) h3
def jM{p:Nat->Prop}{n:Nat}(h:∀j,j<n->p j)(hn:p n):∀j,j<n+1->p j:=by
 intro j hj;by_cases e:j=n
 ·rw[e];exact hn
 ·exact h j ω
def uY{l:List (D aB)}{s:aA}(h:0<=(eE (l,s)).1):(eE (l,s)).1<l.length/\0<=(eE (l,s)).2/\(eE (l,s)).2<(nth aB l (eE (l,s)).1.toNat).2.2.1.length/\
  (nth aT (nth aB l (eE (l,s)).1.toNat).2.2.1 (eE (l,s)).2.toNat).1=s:=by
 rcases Sn l s with⟨i0,k0,e,f⟩|⟨i0,k0,e,f,n⟩|⟨e,n⟩
 ·rw[e];obtain⟨h1,h2,h3⟩:=f.1;exact⟨by simp only;omega,by simp only;omega,by simp only[dx];omega,h3.1⟩
 ·rw[e];obtain⟨h1,h2,h3⟩:=f.1;exact⟨by simp only;omega,by simp only;omega,by simp only[dx];omega,h3⟩
 ·rw[e]at h;simp at h
end Go.Mrl
namespace Go.Mrl
open Go.Vg
end Go.Mrl
namespace Go.Mrl
open Go.Vg
end Go.Mrl

namespace Go.Mrl
open Go.Vg
end Go.Mrl
namespace Go.Mrl
open Go.Vg
end Go.Mrl
namespace Go.Mrl
open Go.Vg
end Go.Mrl
namespace Go.Mrl
open Go.Vg
def ur(n:Nat)(f:Nat->Bool):List Bool:=(b7 n).map f
def qN(n:Nat)(f:Nat->Bool):(ur n f).length=n:=by simp[ur]
def zD{n i:Nat}{f:Nat->Bool}(h:i<n):(ur n f)[i]?=ξ (f i):=by simp[ur,List.getElem?_range h]
def E8{n i:Nat}{f:Nat->Bool}(h:i<n):nth .bool (ur n f) i=f i:=gK (t:=.bool) (zD h)
def ad5{n i:Nat}{f:Nat->Bool}(v:Bool):(ur n f).set i v=ur n (fun j=>if j=i then v else f j):=by
 apply List.ext_getElem?;intro j;rw[List.getElem?_set];by_cases hj:j<n
 ·rw[zD hj]
  by_cases e:i=j
  ·subst e;rw[π rfl,π (by rw[qN];exact hj),zD hj,π rfl]
  ·rw[ε e,zD hj,ε (fun h=>e h.symm)]
 ·have h1:∀g:Nat->Bool,(ur n g)[j]?=χ:=fun g=>List.getElem?_eq_none (by rw[qN];omega)
  rw[h1,h1];split
  ·rw[qN,ε ω]
  ·rfl
def Ox{n:Nat}{f g:Nat->Bool}(h:∀i,i<n->f i=g i):ur n f=ur n g:=
 List.map_congr_left fun i hi=>h i (dc.1 hi)
end Go.Mrl
namespace Go.Mrl
open Go.Vg
end Go.Mrl
namespace Go.Mrl
open Go.Vg
end Go.Mrl

namespace Go.Mrl
open Go.Vg
def kf(a b:Int×Int×Unit):Bool:=ρ (a.2.1<=0) || (ρ (b.2.1<=0) || (ρ (a.1+a.2.1<=b.1) || ρ (b.1+b.2.1<=a.1)))
def xl{a b:Int×Int×Unit}:kf a b=φ↔a.2.1<=0\/b.2.1<=0\/a.1+a.2.1<=b.1\/b.1+b.2.1<=a.1:=by simp[kf]
def BE{a b:Int×Int×Unit}:kf a b=ψ↔0<a.2.1/\0<b.2.1/\b.1<a.1+a.2.1/\a.1<b.1+b.2.1:=by simp[kf]
def cS(n:Int):Int:=(n+15) / 16*16
def uA(r:Int×Int×Unit):Prop:=-1000000<=r.1/\r.1<=1000000/\-1000000<=r.2.1/\r.2.1<=1000000
def jN(r:D bE)(l:List (D bE)):Bool:=l.all (kf r)
def pO{t:Ty}{xs:List (D t)}{i:Nat}(h:i<xs.length):xs[i]?=ξ (nth t xs i):=by
 rw[List.getElem?_eq_getElem h,<-gK (List.getElem?_eq_getElem h)]
def eG{t:Ty}{xs:List (D t)}{i:Nat}(h:i<xs.length):nth t xs i∈xs:=by
 have:=pO (t:=t) h;exact cf this
def gO{t:Ty}{xs:List (D t)}{x:D t}(h:x∈xs):∃i,i<xs.length/\nth t xs i=x:=by
 obtain⟨i,hi,e⟩:=cw h;exact⟨i,hi,by rw[<-e];exact gK (List.getElem?_eq_getElem hi)⟩
def GF{r:D bE}{l:List (D bE)}(h:∀j,j<l.length->kf r (nth bE l j)=φ):jN r l=φ:=by
 unfold jN;rw[bk];intro x hx;obtain⟨i,hi,e⟩:=gO hx;rw[<-e];exact h i hi
def DN{r:D bE}{l:List (D bE)}{j:Nat}(h:j<l.length)(hf:kf r (nth bE l j)=ψ):jN r l=ψ:=by
 unfold jN;rw[df];exact⟨_,eG h,by rw[hf];decide⟩
def ZI{r:D bE}{l:List (D bE)}(h:jN r l=ψ):∃x∈l,kf r x=ψ:=by
 unfold jN at h;rw[df]at h;obtain⟨x,hx,e⟩:=h;exact⟨x,hx,by simpa using e⟩
def gV(l:List (D bE))(many:Int):Nat->Int->Int
 |0,at_=>at_
 |n+1,at_=>if jN (at_,many,()) l=φ then at_ else gV l many n (at_+16)
def gv:List (D bE)->List Int->List Int->Option (List Int)
 |_,[],out=>ξ out
 |l,n :: r,out=>if 256<gV l (cS n) 40 0+cS n then χ else gv (l++[(gV l (cS n) 40 0,cS n,())]) r (out++[gV l (cS n) 40 0])
def E9(s:List Int):Bool:=s.any fun(n:Int)=>ρ (n<1) || ρ (40<n)
def Fa(l:List (D bE)):Bool:=l.any fun(r:Int×Int×Unit)=>ρ (r.1<0) || (ρ (256<r.1) || (ρ (r.2.1<0) || ρ (256<r.2.1)))
def cF(x:List Int×List (D bE)):List Int×aR:=
 if 6<x.1.length\/20<x.2.length then([],.no 2)else if E9 x.1=φ\/Fa x.2=φ then([],.no 1)else
  match gv x.2 x.1 []with
  |some o=>(o,.nil)
  |none=>([],.no 8)
def Us{t:Ty}{xs:List (D t)}{p:D t->Bool}{i:Nat}(h:i<xs.length)(hp:p (nth t xs i)=φ):xs.any p=φ:=by
 rw[cg];exact⟨_,eG h,hp⟩
def Ut{t:Ty}{xs:List (D t)}{p:D t->Bool}(h:∀i,i<xs.length->p (nth t xs i)=ψ):xs.any p=ψ:=by
 rw[dd];intro x hx;obtain⟨i,hi,e⟩:=gO hx;rw[<-e,h i hi];decide
def pP{l:List (D bE)}{s out:List Int}{k:Nat}(h:k<s.length):gv l (s.drop k) out=
  if 256<gV l (cS (nth (.int .i64) s k)) 40 0+cS (nth (.int .i64) s k)then χ
  else gv (l++[(gV l (cS (nth (.int .i64) s k)) 40 0,cS (nth (.int .i64) s k),())]) (s.drop (k+1)) (out++[gV l (cS (nth (.int .i64) s k)) 40 0]):=by
 have e:s.drop k=nth (.int .i64) s k :: s.drop (k+1):=by
  rw[fu h];congr 1;exact(gK (t:=.int .i64) (List.getElem?_eq_getElem h)).symm
 rw[e];rfl
def DO{l:List (D bE)}{s out:List Int}{k:Nat}(h:s.length<=k):gv l (s.drop k) out=ξ out:=by
 rw[bm h];rfl
def kI(r:Int×Int×Unit):Prop:=0<=r.1/\r.1<=256/\0<=r.2.1/\r.2.1<=256
def kI.uA{r:Int×Int×Unit}(h:kI r):Mrl.uA r:=by
 obtain⟨h1,h2,h3,h4⟩:=h;refine⟨?_,?_,?_,?_⟩ <;> omega
def J7{l:List (D bE)}{at_ many:Int}(hl:∀x∈l,kI x)(h:jN (at_,many,()) l=ψ):at_<512:=by
 obtain⟨x,hx,e⟩:=ZI h;obtain⟨h1,h2,h3,h4⟩:=hl x hx;obtain⟨h5,h6,h7,h8⟩:=BE.1 e;have h8:at_<x.1+x.2.1:=h8;omega
def tx{l:List (D bE)}{many at_:Int}{n:Nat}(h:jN (at_,many,()) l=φ):gV l many n at_=at_:=by
 cases n with
 |zero=>rfl
 |succ n=>rw[gV,π h]
def J8{l:List (D bE)}{many at_:Int}{n:Nat}(h:jN (at_,many,()) l=ψ):gV l many (n+1) at_=gV l many n (at_+16):=by
 rw[gV,ε (by rw[h];decide)]
def eM{n:Int}(h1:1<=n)(h2:n<=40):16<=cS n/\cS n<=48:=by unfold cS;omega
end Go.Mrl
namespace Go.Mrl
open Go.Vg
def xm{s:List Int}{l:List (D bE)}(h:6<s.length\/20<l.length):cF (s,l)=([],.no 2):=by
 unfold cF;rw[π h]
def xn{s:List Int}{l:List (D bE)}(h:¬(6<s.length\/20<l.length)){i:Nat}(hi:i<s.length)(hb:¬(1<=(nth (.int .i64) s i:Int)/\(nth (.int .i64) s i:Int)<=40)):cF (s,l)=([],.no 1):=by
 unfold cF;rw[ε h,π];refine .inl (Us (t:=.int .i64) hi ?_);simp only[cd,decide_eq_true_eq];generalize nth (.int .i64) s i=x at hb;have hb:¬(1<=(x:Int)/\(x:Int)<=40):=hb;dsimp only[D]at*;omega
def vF{s:List Int}{l:List (D bE)}(h:¬(6<s.length\/20<l.length)){i:Nat}(hi:i<l.length)(hb:¬kI (nth bE l i)):cF (s,l)=([],.no 1):=by
 unfold cF;rw[ε h,π];refine .inr (Us (t:=bE) hi ?_);simp only[cd,decide_eq_true_eq];unfold kI at hb;dsimp only[D]at*;omega
def tV{s:List Int}{l:List (D bE)}(h:¬(6<s.length\/20<l.length))(hs:∀j,j<s.length->1<=(nth (.int .i64) s j:Int)/\(nth (.int .i64) s j:Int)<=40)(ht:∀j,j<l.length->kI (nth bE l j)) :
  cF (s,l)=match gv l s []with|some o=>(o,.nil)|none=>([],.no 8):=by
 unfold cF;rw[ε h,ε];rintro(e|e)
 ·have:E9 s=ψ:=Ut (t:=.int .i64) fun i hi=>by
   have:=hs i hi;simp only[ej,decide_eq_false_iff_not];dsimp only[D]at*;omega
  rw[this]at e;cases e
 ·have:Fa l=ψ:=Ut (t:=bE) fun i hi=>by
   have:=ht i hi;unfold kI at this;simp only[ej,decide_eq_false_iff_not];dsimp only[D]at*;omega
  rw[this]at e;cases e
end Go.Mrl
namespace Go.Mrl
open Go.Vg
def Oy{l:List (Int×Int×Unit)}{r:Int×Int×Unit}(h:∀y∈l,kI y)(hr:kI r):∀y∈l++[r],kI y:=by
 intro y hy;rcases ba.1 hy with hy|hy
 ·exact h y hy
 ·simp at hy;rw[hy];exact hr
end Go.Mrl
namespace Go.Mrl
open Go.Vg
def uK(l:List (Int×Int×Unit))(p:Int):Bool:=l.any fun r=>ρ (r.1<=p)&&ρ (p<r.1+r.2.1)
def mz(l:List (Int×Int×Unit)):List Bool:=ur 600 fun p=>uK l p
def Uu(U:List Bool)(p:Int):Bool:=ρ (600<=p) || !(nth .bool U p.toNat)
def kg(U:List Bool)(at_:Int)(k:Nat):Bool:=(b7 k).all fun q=>Uu U (at_+q)
def pw(U:List Bool)(many:Int):Nat->Int->Int
 |0,at_=>at_
 |n+1,at_=>if kg U at_ many.toNat=φ then at_ else pw U many n (at_+16)
def ki(U:List Bool)(at_:Int)(k:Nat):List Bool:=ur 600 fun p=>nth .bool U p || (ρ (at_<=p)&&ρ ((p:Int)<at_+k))
def vG(l:List (Int×Int×Unit)):(mz l).length=600:=qN _ _
def rZ(U:List Bool)(at_:Int)(k:Nat):(ki U at_ k).length=600:=qN _ _
def J9{l:List (Int×Int×Unit)}{p:Nat}(h:p<600):nth .bool (mz l) p=uK l p:=E8 h
def M8{a b:List Bool}(hl:a.length=b.length)(h:∀i,i<a.length->nth .bool a i=nth .bool b i):a=b:=by
 apply fv hl;intro i h1 h2;have:=h i h1;rw[show nth .bool a i=a[i]from gK (t:=.bool) (List.getElem?_eq_getElem h1),show nth .bool b i=b[i]from gK (t:=.bool) (List.getElem?_eq_getElem h2)]at this;exact this
def GG{U:List Bool}{at_:Int}(h:U.length=600):ki U at_ 0=U:=by
 apply M8 (by rw[rZ,h]);intro i hi;rw[rZ]at hi;unfold ki;rw[E8 hi];have:(ρ (at_<=(i:Int))&&ρ ((i:Int)<at_+((0:Nat):Int)))=ψ:=by simp <;> omega
 rw[this,Bool.or_false]
def Ka{U:List Bool}{at_:Int}{k:Nat}(h0:0<=at_)(_:at_+k<600):(ki U at_ k).set (at_+k).toNat φ=ki U at_ (k+1):=by
 unfold ki;rw[ad5];refine Ox fun i hi =>?_
 by_cases e:i=(at_+k).toNat
 ·rw[π e]
  have:(ρ (at_<=(i:Int))&&ρ ((i:Int)<at_+((k+1:Nat):Int)))=φ:=by simp;omega
  rw[this,Bool.or_true]
 ·rw[ε e]
  congr 1;by_cases h1:at_<=(i:Int)
  ·by_cases h2:(i:Int)<at_+k
   ·simp[h1,h2];omega
   ·simp[h1,h2];omega
  ·simp[h1]
def WI(l:List (Int×Int×Unit))(r:Int×Int×Unit)(p:Int):uK (l++[r]) p=(uK l p || (ρ (r.1<=p)&&ρ (p<r.1+r.2.1))):=by
 simp[uK]
def GH{l:List (Int×Int×Unit)}{at_ many:Int}{k:Nat}(hk:(k:Int)=many):ki (mz l) at_ k=mz (l++[(at_,many,())]):=by
 unfold ki mz;refine Ox fun i hi =>?_
 rw[E8 hi,WI];simp only[hk]
def WJ{l:List (D bE)}{i k:Nat}(hi:i<l.length)(hk:(k:Int)=(nth bE l i).2.1):ki (mz (l.take i)) (nth bE l i).1 k=mz (l.take (i+1)):=by
 have e:l.take (i+1)=l.take i++[nth bE l i]:=by
  rw[cr,pO (t:=bE) hi];rfl
 rw[e];exact GH (l:=l.take i) hk
def zE{U:List Bool}{at_:Int}{k:Nat}:kg U at_ (k+1)=(kg U at_ k&&Uu U (at_+k)):=by
 unfold kg;rw[cx,List.all_append];simp
def WK{U:List Bool}{at_:Int}{k n:Nat}(h:k<=n)(hf:kg U at_ k=ψ):kg U at_ n=ψ:=by
 induction n with
 |zero=>
  obtain rfl:k=0:=by omega
  exact hf
 |succ n ih=>
  by_cases e:k=n+1
  ·rw[<-e];exact hf
  ·rw[zE,ih ω];rfl
def GI{U:List Bool}{many at_:Int}{n:Nat}(h:kg U at_ many.toNat=φ):pw U many n at_=at_:=by
 cases n with
 |zero=>rfl
 |succ n=>rw[pw,π h]
def ad6{U:List Bool}{many at_:Int}{n:Nat}(h:kg U at_ many.toNat=ψ):pw U many (n+1) at_=pw U many n (at_+16):=by
 rw[pw,ε (by rw[h];decide)]
def GJ{l:List (Int×Int×Unit)}{at_ many:Int}(hl:∀y∈l,kI y)(h0:0<=at_)(hm:0<many):kg (mz l) at_ many.toNat=jN (at_,many,()) l:=by
 rw[dy];constructor
 ·intro h
  unfold jN;rw[bk];intro(x:Int×Int×Unit) hx;obtain⟨g1,g2,g3,g4⟩:=hl x hx;rw[xl];show many<=0\/x.2.1<=0\/at_+many<=x.1\/x.1+x.2.1<=at_;apply aq;intro hn;have hc:0<x.2.1/\x.1<at_+many/\at_<x.1+x.2.1:=by omega
  have key:∀p:Int,at_<=p->p<at_+many->x.1<=p->p<x.1+x.2.1->False:=by
   intro p p1 p2 p3 p4;have:=bk.1 h (p-at_).toNat (dc.2 ω);rw[show at_+((p-at_).toNat:Int)=p by omega]at this;unfold Uu at this;rw[J9 ω,show((p.toNat:Nat):Int)=p by omega]at this;have hin:uK l p=φ:=by
    unfold uK;rw[cg];exact⟨x,hx,by simp[p3,p4]⟩
   rw[hin]at this;simp at this;omega
  by_cases q:at_<=x.1
  ·exact key x.1 q ω ω ω
  ·exact key at_ ω ω ω ω
 ·intro h
  unfold kg;rw[bk];intro q hq;have hq:=dc.1 hq;unfold Uu;by_cases h6:600<=at_+(q:Int)
  ·simp[h6]
  ·rw[J9 ω,show(((at_+(q:Int)).toNat:Nat):Int)=at_+q by omega]
   have:uK l (at_+q)=ψ:=by
    unfold uK;rw[dd];intro(x:Int×Int×Unit) hx;unfold jN at h;have:=xl.1 (bk.1 h x hx);simp only[av,decide_eq_true_eq,not_and];have:many<=0\/x.2.1<=0\/at_+many<=x.1\/x.1+x.2.1<=at_:=this;omega
   rw[this];simp
def GK{l:List (Int×Int×Unit)}{many:Int}(hl:∀y∈l,kI y)(hm:0<many):∀(n:Nat) (at_:Int),0<=at_->pw (mz l) many n at_=gV l many n at_:=by
 intro n;induction n with
 |zero=>intro at_ _;rfl
 |succ n ih=>
  intro at_ h0;unfold pw gV;rw[GJ hl h0 hm,ih _ ω]
end Go.Mrl
namespace Go.Mrl
open Go.Vg
def Sp{U:List Bool}{at_:Int}{k:Nat}(h:kg U at_ k=φ)(h6:600<=at_+k):φ=kg U at_ (k+1):=by
 rw[zE,h];simp[Uu,h6]
def Sq{U:List Bool}{at_:Int}{k:Nat}(h:kg U at_ k=φ)(h6:at_+k<600):(!(nth .bool U (at_+k).toNat))=kg U at_ (k+1):=by
 rw[zE,h];have:ρ (600<=at_+(k:Int))=ψ:=by simp;omega
 simp[Uu,this]
def rA(x:List Int×List (D bE)):List Int×Int:=((cF x).1,jB (cF x).2)
end Go.Mrl

namespace Go.Mrl
open Go.Vg
def DP{t:Ty}{a b:List (D t)}(hl:a.length=b.length)(h:∀i,i<a.length->nth t a i=nth t b i):a=b:=by
 apply fv hl;intro i h1 h2;have:=h i h1
 rwa [show nth t a i=a[i]from gK (List.getElem?_eq_getElem h1),show nth t b i=b[i]from gK (List.getElem?_eq_getElem h2)]at this
def agD(a b:List Int):Bool:=ρ (a=b)
def oE(a b:List aA):Bool:=ρ (a=b)
def aka{a b:List Int}(hl:¬(a.length:Int)=b.length):ψ=agD a b:=by
 symm;simp only[agD,decide_eq_false_iff_not];intro e;exact hl (by rw[e])
def WL{a b:List aA}(hl:(a.length:Int)=b.length)(h:∀i,i<a.length->nth .str a i=nth .str b i):φ=oE a b:=by
 rw[DP (t:=.str) ω h];simp[oE]
def ZJ{a b:List aA}(hl:¬(a.length:Int)=b.length):ψ=oE a b:=by
 symm;simp only[oE,decide_eq_false_iff_not];intro e;exact hl (by rw[e])
def ad7{a b:List aA}{i:Nat}(h:¬nth .str a i=nth .str b i):ψ=oE a b:=by
 symm;simp only[oE,decide_eq_false_iff_not];intro e;exact h (by rw[e])
def akn{α:Type}{p:Nat->α->Prop}{f:Nat->α}{k:Nat}(h:∀j,j<k->p j (f j))(hk:p k (f k)):∀j,j<k+1->p j (f j):=by
 intro j hj;by_cases e:j=k
 ·subst e;exact hk
 ·exact h j ω
def Kb{p:Nat->Prop}{k:Nat}(h:∀j,j<k->p j)(hk:p k):∀j,j<k+1->p j:=by
 intro j hj;by_cases e:j=k
 ·subst e;exact hk
 ·exact h j ω
def r5{t:Ty}{a b:List (D t)}{i:Nat}:nth t (a++b) i=if i<a.length then nth t a i else nth t b (i-a.length):=by
 unfold nth;simp only[List.getD_eq_getElem?_getD,List.getElem?_append];split <;> rfl
def Fb{t:Ty}{a:List (D t)}{n i:Nat}(h:i<n):nth t (a.take n) i=nth t a i:=by
 unfold nth;simp only[List.getD_eq_getElem?_getD,List.getElem?_take,π h]
@[reducible] def jh:Ty:=.slice (.int .i64)
@[reducible] def tW:Ty:=.slice jh
abbrev Pt:=Int×Int×Int×Unit
abbrev Ws:=List (List Int)
def wD(w:Ws)(p:Pt):Prop:=0<=p.1/\p.1<w.length/\0<=p.2.1/\p.2.1<(nth jh w p.1.toNat).length
def vH(w:Ws)(p:Pt):Ws:=w.set p.1.toNat ((nth jh w p.1.toNat).set p.2.1.toNat p.2.2.1)
def ia(w:Ws)(l:List Pt):Ws:=l.foldl vH w
open Classical in
def kO(x:Ws×List Pt):Ws×aR:=if ∀i,i<x.2.length->wD x.1 (nth aQ x.2 i)then(ia x.1 x.2,.nil)else([],.no 1)
def ng{t:Ty}{l:List (D t)}{i j:Nat}{x:D t}(h:¬i=j):nth t (l.set i x) j=nth t l j:=by
 unfold nth;simp only[List.getD_eq_getElem?_getD];rw[List.getElem?_set_ne h]
def nh{t:Ty}{l:List (D t)}{i:Nat}{x:D t}(h:i<l.length):nth t (l.set i x) i=x:=by
 unfold nth;simp only[List.getD_eq_getElem?_getD];rw[List.getElem?_set_self h];rfl
def DQ(w:Ws)(p:Pt):(vH w p).length=w.length:=by simp[vH]
def Oz(w:Ws)(p:Pt)(i:Nat):nth jh (vH w p) i=if i<w.length/\p.1.toNat=i then(nth jh w i).set p.2.1.toNat p.2.2.1 else nth jh w i:=by
 unfold vH;by_cases c:p.1.toNat=i
 ·subst c
  by_cases c2:p.1.toNat<w.length
  ·rw[π ⟨c2,rfl⟩,nh (t:=jh) c2]
  ·rw[ε (fun h=>c2 h.1),List.set_eq_of_length_le ω]
 ·rw[ε (fun h=>c h.2),ng (t:=jh) c]
def ZK(w:Ws)(p:Pt)(i:Nat):(nth jh (vH w p) i).length=(nth jh w i).length:=by
 rw[Oz];split <;> simp
def tz(l:List Pt):∀w:Ws,(ia w l).length=w.length:=by
 induction l with
 |nil=>intro w;rfl
 |cons p l ih=>intro w;show(ia (vH w p) l).length=_;rw[ih,DQ]
def wE(l:List Pt):∀(w:Ws) (i:Nat),(nth jh (ia w l) i).length=(nth jh w i).length:=by
 induction l with
 |nil=>intro w i;rfl
 |cons p l ih=>intro w i;show(nth jh (ia (vH w p) l) i).length=_;rw[ih,ZK]
def ZL(w:Ws)(l:List Pt)(p:Pt):ia w (l++[p])=vH (ia w l) p:=by simp[ia]
def mf{t:Ty}{l:List (D t)}{k:Nat}(h:k<l.length):l.take (k+1)=l.take k++[nth t l k]:=by
 rw[cr,pO h];rfl
def ZM{w:Ws}{l:List Pt}{k:Nat}(h:k<l.length):vH (ia w (l.take k)) (nth aQ l k)=ia w (l.take (k+1)):=by
 rw[mf (t:=aQ) h,ZL]
def x9{w:Ws}{l:List Pt}(h:∀i,i<l.length->wD w (nth aQ l i)):kO (w,l)=(ia w l,.nil):=by unfold kO;rw[π h]
def ad8{w:Ws}{l:List Pt}{i:Nat}(hi:i<l.length)(h:¬wD w (nth aQ l i)):kO (w,l)=([],.no 1):=by
 unfold kO;rw[ε (fun hh=>h (hh i hi))]
def nB(r:List Int)(i:Nat):List Pt->List Int
 |[]=>r
 |p :: l=>nB (if p.1=(i:Int)then r.set p.2.1.toNat p.2.2.1 else r) i l
def BF(i:Nat)(p:Pt):∀(l:List Pt) (r:List Int),nB r i (l++[p])=if p.1=(i:Int)then(nB r i l).set p.2.1.toNat p.2.2.1 else nB r i l
 |[],_=>rfl
 |_ :: l,_=>BF i p l _
def DR(i:Nat):∀(l:List Pt) (r:List Int),(nB r i l).length=r.length
 |[],_=>rfl
 |_ :: l,_=>by rw[nB,DR i l];split <;> simp
def ZN{w:Ws}{i:Nat}(hi:i<w.length):∀{l:List Pt} (_:∀p∈l,0<=p.1),nth jh (ia w l) i=nB (nth jh w i) i l:=by
 intro l;induction l generalizing w with
 |nil=>intro _;rfl
 |cons p l ih=>
  intro h;show nth jh (ia (vH w p) l) i=_;rw[ih (by rw[DQ];exact hi) (fun q hq=>h q (by simp[hq])),Oz,nB];have hp:=h p ς;by_cases c:p.1=(i:Int)
  ·rw[π ⟨hi,ω⟩,π c]
  ·rw[ε (fun h=>by omega),ε c]
def ad9{r:List Int}{i k:Nat}{p:List Pt}(h:k<p.length)(e:(nth aQ p k).1=(i:Int)):(nB r i (p.take k)).set (nth aQ p k).2.1.toNat (nth aQ p k).2.2.1=nB r i (p.take (k+1)):=by
 rw[mf (t:=aQ) h,BF,π e]
def ZO{r:List Int}{i k:Nat}{p:List Pt}(h:k<p.length)(e:¬(nth aQ p k).1=(i:Int)):nB r i (p.take k)=nB r i (p.take (k+1)):=by
 rw[mf (t:=aQ) h,BF,ε e]
def aea{w:Ws}{l:List Pt}{i:Nat}(hi:i<w.length)(h:∀j,j<l.length->wD w (nth aQ l j)):nth jh (kO (w,l)).1 i=nB (nth jh w i) i l:=by
 rw[x9 h];refine ZN hi fun p hp =>?_
 obtain⟨j,hj,rfl⟩:=gO (t:=aQ) hp;exact(h j hj).1
def aeb{w:Ws}{l:List Pt}(h:(kO (w,l)).2.isNil=φ):∀i,i<l.length->wD w (nth aQ l i):=by
 unfold kO at h;split at h
 ·assumption
 ·cases h
def aec{w:Ws}{l:List Pt}(h:(kO (w,l)).2.isNil=φ):(kO (w,l)).1.length=w.length:=by rw[x9 (aeb h)];exact tz l w
def Small(x:Int):Prop:=-1000000<=x/\x<=1000000
def Word(x:Int):Prop:=-2147483648<=x/\x<=2147483647
def agE(o:D aB):Prop:=o.2.2.2.1.length<=10/\(∀i,i<o.2.2.1.length->Small (nth aT o.2.2.1 i).2.1)/\
 ∀i,i<o.2.2.2.1.length->Small (nth aV o.2.2.2.1 i).1/\Word (nth aV o.2.2.2.1 i).2.2.1
def lX(l:List (D aB)):Prop:=l.length<=8/\∀i,i<l.length->agE (nth aB l i)
def mr(b:List Int):Prop:=∀i,i<b.length->0<=(nth (.int .i64) b i:Int)/\(nth (.int .i64) b i:Int)<=256
def qO(b:List Int)(i:Nat):Int:=nth (.int .i64) b i
def iz(l:List (D aB))(b:List Int)(t:D aV):Int×aR:=
 if 0<=(eE (l,t.2.2.2.1)).1 then(qO b (eE (l,t.2.2.2.1)).1.toNat+(nth aT (nth aB l (eE (l,t.2.2.2.1)).1.toNat).2.2.1 (eE (l,t.2.2.2.1)).2.toNat).2.1,.nil)
 else if t.2.2.2.2.1=φ then(0,.nil)else(0,.no 6)
def mA(b:List Int)(i:Int)(t:D aV)(n:Int):Int×aR:=
 if t.2.1=(3:Int)then
  if n-(qO b i.toNat+t.1)< -500\/500<n-(qO b i.toNat+t.1)then(0,.no 7)
  else(n-(qO b i.toNat+t.1),.nil)
 else if n< -2147483648\/2147483647<n then(0,.no 7)else(n,.nil)
def fY(l:List (D aB))(b:List Int)(i:Int)(t:D aV):Int×aR:=
 if t.2.1=(1:Int)then mA b i t (qO b i.toNat+t.2.2.1)
 else if(iz l b t).2.isNil=φ then mA b i t ((iz l b t).1+t.2.2.1)else(0,(iz l b t).2)
def mu(l:List (D aB))(b:List Int)(i:Nat):List (D aV)->List Pt->List Pt×aR
 |[],out=>(out,.nil)
 |t :: r,out=>if(fY l b i t).2.isNil=φ then mu l b i r (out++[((i:Int),t.1,(fY l b i t).1,())])else([],(fY l b i t).2)
def kS(f:List Pt->List Pt×aR)(x:List Pt×aR):List Pt×aR:=if x.2.isNil=φ then f x.1 else([],x.2)
def mg(l:List (D aB))(b:List Int):List (D aB)->Nat->List Pt->List Pt×aR
 |[],_,out=>(out,.nil)
 |o :: r,i,out=>kS (mg l b r (i+1)) (mu l b i o.2.2.2.1 out)
open Classical in
def eX(x:List (D aB)×List Int):List Pt×aR:=
 if ¬x.2.length=x.1.length then([],.no 3)else if mr x.2 then mg x.1 x.2 x.1 0 []else([],.no 1)
def jl{t:Ty}{l:List (D t)}{i:Nat}(h:i<l.length):l.drop i=nth t l i :: l.drop (i+1):=by
 rw[fu h];congr 1;have:=pO h;rw[List.getElem?_eq_getElem h]at this;exact dh this
def Kc{l:List (D aB)}{b:List Int}{i:Nat}{out:List Pt}(h:i<l.length) :
  mg l b (l.drop i) i out=kS (mg l b (l.drop (i+1)) (i+1)) (mu l b i ((nth aB l i).2.2.2.1.drop 0) out):=by
 rw[jl (t:=aB) h];rfl
def Uv{l:List (D aB)}{b:List Int}{i:Nat}{out:List Pt}(h:l.length<=i):mg l b (l.drop i) i out=(out,.nil):=by
 rw[bm h];rfl
def ya{l:List (D aB)}{b:List Int}{i k:Nat}{ts:List (D aV)}{out:List Pt}(h:k<ts.length)(hn:(fY l b i (nth aV ts k)).2.isNil=φ) :
  mu l b i (ts.drop k) out=mu l b i (ts.drop (k+1)) (out++[((i:Int),(nth aV ts k).1,(fY l b i (nth aV ts k)).1,())]):=by
 rw[jl (t:=aV) h,mu,π hn]
def sO{l:List (D aB)}{b:List Int}{i k:Nat}{ts:List (D aV)}{out:List Pt}{f:List Pt->List Pt×aR}(h:k<ts.length)(hn:(fY l b i (nth aV ts k)).2.isNil=ψ) :
  kS f (mu l b i (ts.drop k) out)=([],(fY l b i (nth aV ts k)).2):=by
 rw[jl (t:=aV) h,mu,ε (by simp[hn])];unfold kS;rw[ε (by simp[hn])]
def Uw{l:List (D aB)}{b:List Int}{i k:Nat}{ts:List (D aV)}{out:List Pt}{f:List Pt->List Pt×aR}(h:ts.length<=k):kS f (mu l b i (ts.drop k) out)=f out:=by
 rw[bm h];rfl
def nX{l:List (D aB)}{b:List Int}(h:b.length=l.length)(hb:mr b):eX (l,b)=mg l b l 0 []:=by unfold eX;rw[ε (by simpa using h),π hb]
def OA{l:List (D aB)}{b:List Int}(h:¬b.length=l.length):eX (l,b)=([],.no 3):=by unfold eX;rw[π h]
def Kd{l:List (D aB)}{b:List Int}{i:Nat}(h:b.length=l.length)(hi:i<b.length)(hn:¬(0<=(nth (.int .i64) b i:Int)/\(nth (.int .i64) b i:Int)<=256)):eX (l,b)=([],.no 1):=by
 unfold eX;rw[ε (by simpa using h),ε (fun hh=>hn (hh i hi))]
def nY{b:List Int}{n:Nat}{i:Int}(hb:mr b)(hl:b.length=n)(h0:0<=i)(h1:i<n):0<=(nth (.int .i64) b i.toNat:Int)/\(nth (.int .i64) b i.toNat:Int)<=256:=hb _ ω
def GL{l:List (D aB)}{s:aA}(hm:lX l)(h:0<=(eE (l,s)).1):Small (nth aT (nth aB l (eE (l,s)).1.toNat).2.2.1 (eE (l,s)).2.toNat).2.1:=by
 have hf:=uY h;exact(hm.2 _ ω).2.1 _ ω
def qn{l:List (D aB)}{b:List Int}{t:D aV}(h:0<=(eE (l,t.2.2.2.1)).1) :
  iz l b t=(nth (.int .i64) b (eE (l,t.2.2.2.1)).1.toNat+(nth aT (nth aB l (eE (l,t.2.2.2.1)).1.toNat).2.2.1 (eE (l,t.2.2.2.1)).2.toNat).2.1,.nil):=by unfold iz qO;rw[π h]
def o8{l:List (D aB)}{b:List Int}{t:D aV}(h:(eE (l,t.2.2.2.1)).1<0)(hw:t.2.2.2.2.1=φ):iz l b t=(0,.nil):=by unfold iz;rw[ε ω,π hw]
def vI{l:List (D aB)}{b:List Int}{t:D aV}(h:(eE (l,t.2.2.2.1)).1<0)(hw:t.2.2.2.2.1=ψ):iz l b t=(0,.no 6):=by unfold iz;rw[ε ω,ε (by simp[hw])]
def BG{l:List (D aB)}{b:List Int}(t:D aV)(hm:lX l)(hl:b.length=l.length)(hb:mr b) : -2000000<=(iz l b t).1/\(iz l b t).1<=2000000:=by
 by_cases h:0<=(eE (l,t.2.2.2.1)).1
 ·have h1:=nY hb hl h (uY h).1
  have h2:=GL hm h;rw[qn h];unfold Small at h2;dsimp only[D]at*;omega
 ·cases hw:t.2.2.2.2.1 with
  |true=>rw[o8 ω hw];simp
  |false=>rw[vI ω hw];simp
def sP{l:List (D aB)}{b:List Int}{i:Int}{t:D aV}(h:t.2.1=(1:Int)):fY l b i t=mA b i t (nth (.int .i64) b i.toNat+t.2.2.1):=by unfold fY;rw[π h];rfl
def mO{l:List (D aB)}{b:List Int}{i:Int}{t:D aV}(h:¬t.2.1=(1:Int))(hn:(iz l b t).2.isNil=φ):fY l b i t=mA b i t ((iz l b t).1+t.2.2.1):=by unfold fY;rw[ε h,π hn]
def Ux{l:List (D aB)}{b:List Int}{i:Int}{t:D aV}(h:¬t.2.1=(1:Int))(hn:(iz l b t).2.isNil=ψ):fY l b i t=(0,(iz l b t).2):=by unfold fY;rw[ε h,ε (by simp[hn])]
def Fc{b:List Int}{i n:Int}{t:D aV}(h:t.2.1=(3:Int))(hr:n-(nth (.int .i64) b i.toNat+t.1)< -500\/500<n-(nth (.int .i64) b i.toNat+t.1)):mA b i t n=(0,.no 7):=by
 unfold mA qO;rw[π h,π hr]
def I0{b:List Int}{i n m:Int}{t:D aV}(h:t.2.1=(3:Int))(e:m=n-(nth (.int .i64) b i.toNat+t.1))(hr : -500<=m/\m<=500):mA b i t n=(m,.nil):=by
 unfold mA qO;rw[π h,ε ω,e]
def vJ{b:List Int}{i n:Int}{t:D aV}(h:¬t.2.1=(3:Int))(hr:n< -2147483648\/2147483647<n):mA b i t n=(0,.no 7):=by
 unfold mA;rw[ε h,π hr]
def sQ{b:List Int}{i n m:Int}{t:D aV}(h:¬t.2.1=(3:Int))(e:m=n)(hr : -2147483648<=n/\n<=2147483647):mA b i t n=(m,.nil):=by
 unfold mA;rw[ε h,ε ω,e]
def o9{out:List Pt}{i a m m':Int}(h:m=m'):out++[(i,a,m,())]=out++[(i,a,m',())]:=by rw[h]
def kP(l:List (D aB))(s:aA)(pass i k:Nat):Prop:=
 (pass=0->x8 (nW s) l i k)/\(pass=1->(∀i k,¬iX (nW s) l i k)/\x8 (AJ s) l i k)/\(2<=pass->∀i k,¬iX (AJ s) l i k)
def kP.start(l:List (D aB))(s:aA):kP l s 0 0 0:=
 ⟨fun _ i' k' h=>by unfold ahead at h;omega,fun h=>by omega,fun h=>by omega⟩
def kP.row{l:List (D aB)}{s:aA}{pass i k:Nat}(h:kP l s pass i k)(hk:(nth aB l i).2.2.1.length<=k):kP l s pass (i+1) 0:=
 ⟨fun e=>(h.1 e).row hk,fun e=>⟨(h.2.1 e).1,(h.2.1 e).2.row hk⟩,h.2.2⟩
def kP.pass{l:List (D aB)}{s:aA}{pass i k:Nat}(h:kP l s pass i k)(hi:l.length<=i):kP l s (pass+1) 0 0:=by
 refine⟨fun e=>by omega,fun e =>?_,fun e =>?_⟩
 ·obtain rfl:pass=0:=by omega
  exact⟨(h.1 rfl).all hi,fun i' k' h=>by unfold ahead at h;omega⟩
 ·by_cases c:pass=1
  ·exact(h.2.1 c).2.all hi
  ·exact h.2.2 ω
def kP.next{l:List (D aB)}{s:aA}{pass i k:Nat}(h:kP l s pass i k)(hn:¬((nth aT (nth aB l i).2.2.1 k).1=s/\((nth aT (nth aB l i).2.2.1 k).2.2.1=φ↔(pass:Int)=1))):kP l s pass i (k+1):=by
 refine⟨fun e=>(h.1 e).next fun hp=>hn ⟨hp.2.2.1,?_⟩,fun e=>⟨(h.2.1 e).1,(h.2.1 e).2.next fun hp=>hn ⟨hp.2.2,?_⟩⟩,h.2.2⟩
 ·rw[hp.2.2.2];simp;omega
 ·subst e
  have:=(h.2.1 rfl).1 i k;cases c:(nth aT (nth aB l i).2.2.1 k).2.2.1 with
  |true=>simp
  |false=>exact absurd ⟨hp.1,hp.2.1,hp.2.2,c⟩ this
def kP.found{l:List (D aB)}{s:aA}{pass i k:Nat}(h:kP l s pass i k)(hp:pass<2)(hi:i<l.length)(hk:k<(nth aB l i).2.2.1.length)(hs:(nth aT (nth aB l i).2.2.1 k).1=s)
  (hw:(nth aT (nth aB l i).2.2.1 k).2.2.1=φ↔(pass:Int)=1):eE (l,s)=((i:Int),(k:Int)):=by
 by_cases c:pass=0
 ·subst c
  refine vE ⟨⟨hi,hk,hs,?_⟩,h.1 rfl⟩;cases c:(nth aT (nth aB l i).2.2.1 k).2.2.1 with
  |true=>have:=hw.1 c;simp at this
  |false=>rfl
 ·have h1:=h.2.1 ω
  exact zB h1.1 ⟨⟨hi,hk,hs⟩,h1.2⟩
def kP.done{l:List (D aB)}{s:aA}{pass i k:Nat}(h:kP l s pass i k)(hp:¬pass<2):eE (l,s)=(-1,-1):=zC (h.2.2 ω)
def Told(e:aR):Prop:=nf e (jB e)=φ
def Ke(b:List Int)(i n:Int)(t:D aV):Told (mA b i t n).2:=by
 unfold mA;split <;> split <;> rfl
def Sr(l:List (D aB))(b:List Int)(t:D aV):Told (iz l b t).2:=by
 unfold iz;split
 ·rfl
 ·split <;> rfl
def aed(l:List (D aB))(b:List Int)(i:Int)(t:D aV):Told (fY l b i t).2:=by
 unfold fY;split
 ·exact Ke _ _ _ _
 ·split
  ·exact Ke _ _ _ _
  ·exact Sr _ _ _
def OB(l:List (D aB))(b:List Int)(i:Nat):∀(ts:List (D aV)) (out:List Pt),Told (mu l b i ts out).2
 |[],_=>rfl
 |t :: r,out=>by
  rw[mu];split
  ·exact OB l b i r _
  ·exact aed _ _ _ _
def OE(l:List (D aB))(b:List Int):∀(os:List (D aB)) (i:Nat) (out:List Pt),Told (mg l b os i out).2
 |[],_,_=>rfl
 |o :: r,i,out=>by
  rw[mg];unfold kS;split
  ·exact OE l b r _ _
  ·exact OB _ _ _ _ _
def Fe(x:List (D aB)×List Int):nf (eX x).2 (jB (eX x).2)=φ:=by
 unfold eX;split
 ·rfl
 ·split
  ·exact OE _ _ _ _ _
  ·rfl
def eW(n:Int):Bool:=ρ (-2147483648<=n)&&ρ (n<=2147483647)
def kj:List aA->List aA->Int
 |_,[]=>0
 |p,s :: r=>if aN s > 0 then aN s else if p.any (· == s)=φ then 3 else kj (p++[s]) r
def lY:List Int->Int
 |[]=>0
 |n :: r=>if eW n=φ then lY r else 1
def jO(n:Nat):List (D aT)->List (D aT)->Int
 |_,[]=>0
 |p,s :: r=>if aN s.1 > 0 then aN s.1 else if s.2.1<0\/s.2.1>=(n:Int)then 1 else if p.any (fun x=>x.1 == s.1)=φ then 3 else jO n (p++[s]) r
def jG(a:Int):Option Int->Bool
 |some b=>ρ (a<=b)
 |none=>ψ
def km(n:Nat)(prev:Option Int)(t:D aV):Int:=
 if t.1<0\/t.1>=(n:Int)\/eW t.2.2.1=ψ then 1
 else if t.2.1<1\/t.2.1 > 3\/jG t.1 prev=φ then 3
 else if t.2.1=1 then(if t.2.2.2.1≠[]\/t.2.2.2.2.1=φ then 3 else 0)
 else aN t.2.2.2.1
def mB(n:Nat):Option Int->List (D aV)->Int
 |_,[]=>0
 |prev,t :: r=>if km n prev t≠0 then km n prev t else mB n (ξ t.1) r
def ib(o:D aB):Prop:=o.1.length > 4\/o.2.1.length<1\/o.2.1.length > 40\/o.2.2.1.length > 8\/o.2.2.2.1.length > 6
instance(o:D aB):Decidable (ib o):=by unfold ib;infer_instance
def cQ(o:D aB):Int:=
 if ib o then 2 else if kj [] o.1≠0 then kj [] o.1 else if lY o.2.1≠0 then lY o.2.1
 else if jO o.2.1.length [] o.2.2.1≠0 then jO o.2.1.length [] o.2.2.1 else mB o.2.1.length χ o.2.2.2.1
def fJ{t:Ty}{l:List (D t)}{i:Nat}(h:i<l.length):l.take (i+1)=l.take i++[nth t l i]:=by
 rw[cr];congr 1;unfold nth;simp[h]
def AK:∀(l p:List aA),0<=kj p l
 |[],_=>ax _
 |s :: r,p=>by
  unfold kj;split
  ·omega
  ·split
   ·decide
   ·exact AK r _
def AL:∀l:List Int,0<=lY l
 |[]=>ax _
 |n :: r=>by
  unfold lY;split
  ·exact AL r
  ·decide
def vK(n:Nat):∀(l p:List (D aT)),0<=jO n p l
 |[],_=>ax _
 |s :: r,p=>by
  unfold jO;split
  ·omega
  ·split
   ·decide
   ·split
    ·decide
    ·exact vK n r _
def Ss(n:Nat)(p:Option Int)(t:D aV):0<=km n p t:=by
 unfold km;split
 ·decide
 ·split
  ·decide
  ·split
   ·split <;> decide
   ·exact cO _
def BH(n:Nat):∀(l:List (D aV)) (p:Option Int),0<=mB n p l
 |[],_=>ax _
 |t :: r,p=>by
  unfold mB;split
  ·exact Ss n p t
  ·exact BH n r _
def AM(o:D aB):0<=cQ o:=by
 unfold cQ;split
 ·decide
 ·split
  ·exact AK _ _
  ·split
   ·exact AL _
   ·split
    ·exact vK _ _ _
    ·exact BH _ _ _
structure kn (l:List aA) (i:Nat):Prop where
 le:i<=l.length
 eq:kj (l.take i) (l.drop i)=kj [] l
def kn.zero(l:List aA):kn l 0:=⟨ao _,rfl⟩
def kn.fault{l:List aA}{i:Nat}(h:kn l i)(hi:i<l.length)(hf:aN (nth .str l i) > 0):kj [] l=aN (nth .str l i):=by
 rw[<-h.eq,jl (t:=.str) hi];unfold kj;rw[π hf]
def kn.dup{l:List aA}{i:Nat}(h:kn l i)(hi:i<l.length)(hf:aN (nth .str l i)<=0)(ha:(l.take i).any (· == nth .str l i)=φ):kj [] l=3:=by
 rw[<-h.eq,jl (t:=.str) hi];unfold kj;rw[ε ω,π ha]
def kn.next{l:List aA}{i:Nat}(h:kn l i)(hi:i<l.length)(hf:aN (nth .str l i)<=0)(ha:(l.take i).any (· == nth .str l i)=ψ):kn l (i+1):=by
 refine⟨hi,?_⟩;rw[<-h.eq,jl (t:=.str) hi,fJ (t:=.str) hi]
 conv=>rhs;unfold kj
 rw[ε ω,ε (by rw[ha];decide)]
def kn.done{l:List aA}{i:Nat}(h:kn l i)(hi:¬i<l.length):kj [] l=0:=by
 rw[<-h.eq,bm ω];rfl
structure lC (l:List Int) (i:Nat):Prop where
 le:i<=l.length
 eq:lY (l.drop i)=lY l
def lC.zero(l:List Int):lC l 0:=⟨ao _,rfl⟩
def lC.fault{l:List Int}{i:Nat}(h:lC l i)(hi:i<l.length)(hf:eW (nth (.int .i64) l i)=ψ):lY l=1:=by
 rw[<-h.eq,jl (t:=.int .i64) hi];unfold lY;rw[ε (by rw[hf];decide)]
def lC.next{l:List Int}{i:Nat}(h:lC l i)(hi:i<l.length)(hf:eW (nth (.int .i64) l i)=φ):lC l (i+1):=by
 refine⟨hi,?_⟩;rw[<-h.eq,jl (t:=.int .i64) hi]
 conv=>rhs;unfold lY
 rw[π hf]
def lC.done{l:List Int}{i:Nat}(h:lC l i)(hi:¬i<l.length):lY l=0:=by
 rw[<-h.eq,bm ω];rfl
structure lu (n:Nat) (l:List (D aT)) (i:Nat):Prop where
 le:i<=l.length
 eq:jO n (l.take i) (l.drop i)=jO n [] l
def lu.zero(n:Nat)(l:List (D aT)):lu n l 0:=⟨ao _,rfl⟩
def lu.fault{n:Nat}{l:List (D aT)}{i:Nat}(h:lu n l i)(hi:i<l.length)(hf:aN (nth aT l i).1 > 0):jO n [] l=aN (nth aT l i).1:=by
 rw[<-h.eq,jl (t:=aT) hi];unfold jO;rw[π hf]
def lu.out{n:Nat}{l:List (D aT)}{i:Nat}(h:lu n l i)(hi:i<l.length)(hf:aN (nth aT l i).1<=0)(ho:(nth aT l i).2.1<0\/(nth aT l i).2.1>=(n:Int)):jO n [] l=1:=by
 rw[<-h.eq,jl (t:=aT) hi];unfold jO;rw[ε ω,π ho]
def lu.dup{n:Nat}{l:List (D aT)}{i:Nat}(h:lu n l i)(hi:i<l.length)(hf:aN (nth aT l i).1<=0)(ho:¬((nth aT l i).2.1<0\/(nth aT l i).2.1>=(n:Int)))
  (ha:(l.take i).any (fun x=>x.1 == (nth aT l i).1)=φ):jO n [] l=3:=by
 rw[<-h.eq,jl (t:=aT) hi];unfold jO;rw[ε ω,ε ho,π ha]
def lu.next{n:Nat}{l:List (D aT)}{i:Nat}(h:lu n l i)(hi:i<l.length)(hf:aN (nth aT l i).1<=0)(ho:¬((nth aT l i).2.1<0\/(nth aT l i).2.1>=(n:Int)))
  (ha:(l.take i).any (fun x=>x.1 == (nth aT l i).1)=ψ):lu n l (i+1):=by
 refine⟨hi,?_⟩;rw[<-h.eq,jl (t:=aT) hi,fJ (t:=aT) hi]
 conv=>rhs;unfold jO
 rw[ε ω,ε ho,ε (by rw[ha];decide)]
def lu.done{n:Nat}{l:List (D aT)}{i:Nat}(h:lu n l i)(hi:¬i<l.length):jO n [] l=0:=by
 rw[<-h.eq,bm ω];rfl
def kT(l:List (D aV))(i:Nat):Option Int:=if i=0 then χ else ξ (nth aV l (i-1)).1
structure ni (n:Nat) (l:List (D aV)) (i:Nat):Prop where
 le:i<=l.length
 eq:mB n (kT l i) (l.drop i)=mB n χ l
def ni.zero(n:Nat)(l:List (D aV)):ni n l 0:=⟨ao _,rfl⟩
def ni.fault{n:Nat}{l:List (D aV)}{i:Nat}(h:ni n l i)(hi:i<l.length){f:Int}(hf:km n (kT l i) (nth aV l i)=f)(h0:f≠0):mB n χ l=f:=by
 rw[<-h.eq,jl (t:=aV) hi];unfold mB;rw[π (by rw[hf];exact h0),hf]
def ni.next{n:Nat}{l:List (D aV)}{i:Nat}(h:ni n l i)(hi:i<l.length)(hf:km n (kT l i) (nth aV l i)=0):ni n l (i+1):=by
 refine⟨hi,?_⟩;rw[<-h.eq,jl (t:=aV) hi]
 conv=>rhs;unfold mB
 rw[ε (by rw[hf];decide)];rfl
def ni.done{n:Nat}{l:List (D aV)}{i:Nat}(h:ni n l i)(hi:¬i<l.length):mB n χ l=0:=by
 rw[<-h.eq,bm ω];rfl
def zF{t:Ty}{l:List (D t)}{i j:Nat}{f:D t->Bool}(hj:j<i)(hi:i<=l.length)(h:f (nth t l j)=φ):(l.take i).any f=φ:=by
 rw[cg];refine⟨nth t l j,?_,h⟩;have:(l.take i)[j]?=ξ (nth t l j):=by
  rw[List.getElem?_take,π hj];unfold nth;rw[List.getD_eq_getElem?_getD,List.getElem?_eq_getElem ω];rfl
 exact cf this
def wF{t:Ty}{l:List (D t)}{i:Nat}{f:D t->Bool}(h:∀j,j<i->f (nth t l j)=ψ):(l.take i).any f=ψ:=by
 rw[dd];intro x hx;obtain⟨j,hj,rfl⟩:=cw hx;rw[bc]at hj;have:=h j ω;rw[er];have e:nth t l j=l[j]' ω:=by unfold nth;simp[show j<l.length by omega]
 rw[e]at this;rw[this];decide
def contains_of{l:List aA}{s:aA}{y:Int}(h:(y= -1/\∀j,j<l.length->nth .str l j≠s)\/(0<=y/\y.toNat<l.length/\nth .str l y.toNat=s)):ρ (y>=0)=l.any (· == s):=by
 rcases h with⟨rfl,h⟩|⟨h1,h2,h3⟩
 ·have:=wF (t:=.str) (l:=l) (i:=l.length) (f:=(· == s)) fun j hj=>by simpa using h j hj
  rw[ck]at this;rw[this];rfl
 ·have:=zF (t:=.str) (l:=l) (i:=l.length) (f:=(· == s)) h2 (au _) (by simpa using h3)
  rw[ck]at this;rw[this];simpa using h1
def DS{o:D aB}(h:ib o):cQ o=2:=by unfold cQ;rw[π h]
def r6{o:D aB}(h:¬ib o){f:Int}(hf:kj [] o.1=f)(h0:f≠0):cQ o=f:=by unfold cQ;rw[ε h,π (by rw[hf];exact h0),hf]
def BI{o:D aB}(h:¬ib o)(h1:kj [] o.1=0){f:Int}(hf:lY o.2.1=f)(h0:f≠0):cQ o=f:=by
 unfold cQ;rw[ε h,ε (by rw[h1];decide),π (by rw[hf];exact h0),hf]
def qP{o:D aB}(h:¬ib o)(h1:kj [] o.1=0)(h2:lY o.2.1=0){f:Int}(hf:jO o.2.1.length [] o.2.2.1=f)(h0:f≠0):cQ o=f:=by
 unfold cQ;rw[ε h,ε (by rw[h1];decide),ε (by rw[h2];decide),π (by rw[hf];exact h0),hf]
def ly{o:D aB}(h:¬ib o)(h1:kj [] o.1=0)(h2:lY o.2.1=0)(h3:jO o.2.1.length [] o.2.2.1=0){f:Int}(hf:mB o.2.1.length χ o.2.2.2.1=f):cQ o=f:=by
 unfold cQ;rw[ε h,ε (by rw[h1];decide),ε (by rw[h2];decide),ε (by rw[h3];decide),hf]
def qA(a b:aA):Prop:=bd a b=φ
def OF(a:UInt8):¬a<a:=fun h=>by have:=et.1 h;omega
def r7:∀a:aA,¬qA a a
 |[]=>fun h=>by cases h
 |a :: x=>fun h=>by
  unfold qA at h;simp only[bd,cd,decide_eq_true_eq,av]at h;rcases h with h|⟨_,h⟩
  ·exact OF a h
  ·exact r7 x h
def BJ:∀{a b c:aA},qA a b->qA b c->qA a c
 |a,[],_,h,_=>by unfold qA at h;cases a <;> simp[bd]at h
 |_,_ :: _,[],_,h=>by unfold qA at h;simp[bd]at h
 |[],_ :: _,_ :: _,_,_=>rfl
 |a :: x,b :: y,c :: z,h1,h2=>by
  unfold qA at h1 h2 ⊢;simp only[bd,cd,decide_eq_true_eq,av,beq_iff_eq]at h1 h2 ⊢;rcases h1 with h1|⟨rfl,h1⟩
  ·rcases h2 with h2|⟨rfl,h2⟩
   ·left;rw[et]at*;omega
   ·exact .inl h1
  ·rcases h2 with h2|⟨rfl,h2⟩
   ·exact .inl h2
   ·exact .inr ⟨rfl,BJ h1 h2⟩
def wG:∀{a b:aA},¬qA a b->¬qA b a->a=b
 |[],[],_,_=>rfl
 |[],_ :: _,h,_=>(h rfl).elim
 |_ :: _,[],_,h=>(h rfl).elim
 |a :: x,b :: y,h1,h2=>by
  unfold qA at h1 h2;simp only[bd,cd,decide_eq_true_eq,av,beq_iff_eq,not_or,not_and]at h1 h2;have hab:a=b:=by
   apply dz.1;have h3:=h1.1;have h4:=h2.1;rw[et]at h3 h4;omega
  subst hab;rw[wG (h1.2 rfl) (h2.2 rfl)]
def qQ(a b:aA):Prop:=¬qA b a
def OG(a:aA):qQ a a:=r7 a
def tX{a b:aA}(h:qA a b):qQ a b:=fun h'=>r7 a (BJ h h')
def BK{a b c:aA}(h1:qQ a b)(h2:qQ b c):qQ a c:=by
 intro h;by_cases hab:qA a b
 ·exact h2 (BJ h hab)
 ·have:=wG hab h1;subst this;exact h2 h
def OH{a b:aA}(h1:qQ a b)(h2:qQ b a):a=b:=wG h2 h1
def BL{a b:aA}(h1:qQ a b)(h2:a≠b):qA a b:=aq fun h=>h2 (wG h h1)
def uu:∀{a b:List aA},a.Perm b->a.Pairwise qQ->b.Pairwise qQ->a=b
 |[],b,hp,_,_=>hp.nil_eq
 |x :: a,[],hp,_,_=>by have:=hp.length_eq;simp at this
 |x :: a,y :: b,hp,ha,hb=>by
  have ha':=bx.1 ha;have hb':=bx.1 hb;have hxy:x=y:=by
   have h1:x∈y :: b:=hp.mem_iff.1 ς;have h2:y∈x :: a:=hp.mem_iff.2 ς;rcases ag.1 h1 with h1|h1
   ·exact h1
   ·rcases ag.1 h2 with h2|h2
    ·exact h2.symm
    ·exact OH (ha'.1 y h2) (hb'.1 x h1)
  subst hxy;rw[uu (List.perm_cons x |>.1 hp) ha'.2 hb'.2]
def Ff(x:aA):List aA->List aA
 |[]=>[x]
 |y :: r=>if bd y x=φ then y :: Ff x r else x :: y :: r
def nN(l:List aA):List aA:=l.foldr Ff []
def BM(x:aA):∀l:List aA,(Ff x l).Perm (x :: l)
 |[] =>.refl _
 |y :: r=>by
  unfold Ff;split
  ·exact((BM x r).cons y).trans (eu x y r)
  ·exact .refl _
def DT(x:aA):∀{l:List aA},l.Pairwise qQ->(Ff x l).Pairwise qQ
 |[],_=>by simp[Ff]
 |y :: r,h=>by
  have h':=bx.1 h;unfold Ff;split
  ·rename_i c
   refine bx.2 ⟨fun z hz =>?_,DT x h'.2⟩;rcases ag.1 ((BM x r).mem_iff.1 hz)with rfl|hz
   ·exact tX c
   ·exact h'.1 z hz
  ·rename_i c
   have hxy:qQ x y:=c;refine bx.2 ⟨fun z hz =>?_,h⟩;rcases ag.1 hz with rfl|hz
   ·exact hxy
   ·exact BK hxy (h'.1 z hz)
def r8:∀l:List aA,(nN l).Perm l
 |[] =>.refl _
 |x :: l=>(BM x _).trans ((r8 l).cons x)
def r9:∀l:List aA,(nN l).Pairwise qQ
 |[] =>.nil
 |x :: l=>DT x (r9 l)
def OI{a b:List aA}(hp:a.Perm b)(hs:a.Pairwise qQ):nN b=a:=uu ((r8 b).trans hp.symm) (r9 b) hs
def M9{a b:List aA}(hp:a.Perm b):nN a=nN b:=uu ((r8 a).trans (hp.trans (r8 b).symm)) (r9 a) (r9 b)
def wH(l:List aA)(j:Nat):List aA:=(l.set j (nth .str l (j-1))).set (j-1) (nth .str l j)
def OJ(l:List aA)(j:Nat):(wH l j).length=l.length:=by simp[wH]
def WM{l:List aA}{j:Nat}(h0:0<j)(h:j<l.length):(wH l j).Perm l:=by
 have e1:nth .str l (j-1)=l[j-1]:=gK (t:=.str) (List.getElem?_eq_getElem ω);have e2:nth .str l j=l[j]:=gK (t:=.str) (List.getElem?_eq_getElem h);unfold wH;rw[e1,e2];exact List.set_set_perm h ω
def Kf{l:List aA}{j k:Nat}(h0:0<j)(h:j<l.length):nth .str (wH l j) k=if k=j then nth .str l (j-1)else if k=j-1 then nth .str l j else nth .str l k:=by
 unfold wH;by_cases c:k=j-1
 ·subst c
  rw[nh (t:=.str) (by simp;omega),ε ω,π rfl]
 ·rw[ng (t:=.str) (fun e=>c e.symm)]
  by_cases c2:k=j
  ·subst c2;rw[nh (t:=.str) h,π rfl]
  ·rw[ng (t:=.str) (fun e=>c2 e.symm),ε c2,ε c]
def BN(l:List aA)(i:Nat):Prop:=∀a b,a<b->b<i->qQ (nth .str l a) (nth .str l b)
def AN(l:List aA)(i j:Nat):Prop:=∀a b,a<b->b<=i->b≠j->qQ (nth .str l a) (nth .str l b)
def AN.start{l:List aA}{i:Nat}(h:BN l i):AN l i i:=fun a b h1 h2 h3=>h a b h1 ω
def AN.swap{l:List aA}{i j:Nat}(h:AN l i j)(h0:0<j)(hj:j<l.length)(hi:j<=i)(hlt:qA (nth .str l j) (nth .str l (j-1))):AN (wH l j) i (j-1):=by
 intro a b h1 h2 h3;rw[Kf h0 hj,Kf h0 hj];by_cases cb:b=j
 ·subst cb
  rw[π rfl,ε ω];by_cases ca:a=b-1
  ·rw[π ca];exact tX hlt
  ·rw[ε ca];exact h a (b-1) ω ω ω
 ·rw[ε cb,ε h3]
  by_cases ca:a=j
  ·subst ca;rw[π rfl];exact h (a-1) b ω h2 cb
  ·rw[ε ca]
   by_cases ca2:a=j-1
   ·rw[π ca2];exact h j b ω h2 cb
   ·rw[ε ca2];exact h a b h1 h2 cb
def AN.done{l:List aA}{i j:Nat}(h:AN l i j)(hj:j=0\/¬qA (nth .str l j) (nth .str l (j-1)))(hi:j<=i):BN l (i+1):=by
 intro a b h1 h2;by_cases c:b=j
 ·subst c
  rcases hj with hj|hj
  ·omega
  ·by_cases ca:a=b-1
   ·rw[ca];exact hj
   ·exact BK (h a (b-1) ω ω ω) hj
 ·exact h a b h1 ω c
def Su{l:List aA}(h:BN l l.length):l.Pairwise qQ:=by
 rw[List.pairwise_iff_getElem];intro i j hi hj hij;have:=h i j hij hj
 rwa [show nth .str l i=l[i]from gK (t:=.str) (List.getElem?_eq_getElem hi),show nth .str l j=l[j]from gK (t:=.str) (List.getElem?_eq_getElem hj)]at this
def ZP{l xs:List aA}(hp:l.Perm xs)(h:BN l l.length):l=nN xs:=(OI hp (Su h)).symm
abbrev Dk:=(Int×Bool×Unit)×(List aA×(List aA×(List (Int×aA×Unit)×Unit)))
def I1(x:Int×Int):Int×Int:=(0,x.1*x.2)
def fU(s:aA):aA:=s++bo (64-s.length) 0
def stepOf(d:Dk):Dk×Int:=
 if d.1.2.1=φ then(d,9)else if d.1.1=0 then(((-1,φ,()),d.2),9)else(((if 0<d.1.1 then d.1.1-1 else d.1.1,ψ,()),d.2),0)
def cA(d:Dk)(at_:Int)(s:aA):Dk×Int:=
 if at_<0\/(d.2.2.1.length:Int)<=at_\/64<s.length then(d,1)
 else if(stepOf d).2=0 then(((stepOf d).1.1,d.2.1,d.2.2.1.set at_.toNat (fU s),d.2.2.2.1++[(at_,fU s,())],()),0)else stepOf d
def cC(d:Dk):Dk×Int:=
 if(stepOf d).2=0 then(((stepOf d).1.1,d.2.2.1,d.2.2.1,[],()),0)else stepOf d
def ai0(d:Dk)(n:Int):Dk:=((We n (-1),d.1.2.1,()),d.2)
def Nw(k:Int)(i:Nat):Prop:=(aw .u64 ((ak bf.bits (k.fdiv (2^(i % 64)))&&&ak bf.bits 1).toNat:Int))=1
open Classical in
def nj(k:Int)(wait:List (Int×aA×Unit))(kept:List aA):Nat->List aA
 |0=>kept
 |n+1=>if Nw k n then(nj k wait kept n).set (nth iJ wait n).1.toNat (nth iJ wait n).2.1 else nj k wait kept n
def nC(d:Dk)(k:Int):Dk:=
 ((-1,ψ,()),nj k d.2.2.2.1 d.2.1 d.2.2.2.1.length,nj k d.2.2.2.1 d.2.1 d.2.2.2.1.length,[],())
def I2(n:Int):Dk:=((-1,ψ,()),bo n.toNat (fU []),bo n.toNat (fU []),[],())
def BO(k:Int)(wait:List (Int×aA×Unit))(kept:List aA):∀n,(nj k wait kept n).length=kept.length
 |0=>rfl
 |n+1=>by unfold nj;split <;> simp[BO k wait kept n]
def gB(d:Dk):(stepOf d).1.2=d.2:=by
 unfold stepOf;split
 ·rfl
 ·split <;> rfl
def WN(n:Nat):bytesOf (bo n 0)=bo n 0:=by
 unfold bytesOf;rw[List.map_replicate];rfl
def mm{a:Int}(h0:0<=a)(h:a<18446744073709551616):bf.wrap a=a:=
 sC (by simp[da,db,b5,b6];omega)
def OK{a:Int}(h0:0<=a)(h:a<18446744073709551616):(ak bf.bits a).toNat=a.toNat:=by
 rw[BitVec.toNat_ofInt];show(a % (2^64:Nat)).toNat=a.toNat;rw[Int.emod_eq_of_lt h0 (by simpa using h)]
def aee{a x:Int}(hx:x=aw .u64 ((ak bf.bits a&&&ak bf.bits 4294967295).toNat:Int))(h0:0<=a)(h:a<4294967296):x=a:=by
 rw[fq,OK h0 ω,OK ω ω]at hx;rw[show(4294967295:Int).toNat=2^32-1 from rfl,Nat.and_two_pow_sub_one_eq_mod,ct ω,Int.toNat_of_nonneg h0,mm h0 ω]at hx;exact hx
def OL{a x:Int}{n:Nat}(hx:x=a.fdiv (2^(min n bf.bits)))(hn:n=32)(h0:0<=a)(h:a<4294967296):x=0:=by
 subst hn;rw[show min 32 bf.bits=32 from rfl,ft _ δ,Int.ediv_eq_zero_of_lt h0 (by simpa using h)]at hx;exact hx
def oF(s:aA)(n k:Nat):List aA:=bo k s++bo (n-k) []
def OM{s:aA}{n k:Nat}(h:k<=n):(oF s n k).length=n:=by simp[oF];omega
def WO{s:aA}{n:Nat}(hn:0<n){k:Nat}(hk:k=1)(x:List aA)(hx:x=[s]):(bo n ([]:aA)).take 0++x.take k++(bo n []).drop (0+k)=oF s n 1:=by
 subst hk;subst hx;simp[oF]
def ZQ{s:aA}{n k m:Nat}(hk:k+m<=n)(hm:m<=k):(oF s n k).take k++((oF s n k).take k).take m++(oF s n k).drop (k+m)=oF s n (k+m):=by
 have h1:(oF s n k).take k=bo k s:=by
  unfold oF;rw[List.take_append_of_le_length ς,bt ς]
 rw[h1,List.take_replicate,di hm];unfold oF;rw[List.drop_append,List.drop_of_length_le ς,fw,List.drop_replicate,List.length_replicate,<-List.replicate_append_replicate];rw[show n-k-(k+m-k)=n-(k+m) by omega]
def ZR{s:aA}{n:Nat}:oF s n n=bo n s:=by simp[oF]
def aZ{n:Int}:(aP n).isNil=φ↔n=0:=by
 unfold aP;split
 ·rename_i h;simp[h,aR.isNil]
 ·rename_i h;simp[h,aR.isNil]
def WQ{d:Dk}{at_:Int}{s:aA}(h:at_<0\/(d.2.2.1.length:Int)<=at_\/64<s.length):cA d at_ s=(d,1):=by unfold cA;rw[π h]
def Sv{d:Dk}{at_:Int}{s:aA}(h:¬(at_<0\/(d.2.2.1.length:Int)<=at_\/64<s.length))(h2:¬(stepOf d).2=0):cA d at_ s=stepOf d:=by unfold cA;rw[ε h,ε h2]
def ZS{d:Dk}{at_:Int}{s:aA}(h:¬(at_<0\/(d.2.2.1.length:Int)<=at_\/64<s.length))(h2:(stepOf d).2=0) :
  cA d at_ s=(((stepOf d).1.1,d.2.1,d.2.2.1.set at_.toNat (fU s),d.2.2.2.1++[(at_,fU s,())],()),0):=by unfold cA;rw[ε h,π h2]
def ahk{t:Ty}{l:List (D t)}{i:Nat}{x:D t}(h:i<l.length):nth t (l.set i x) i=x:=by
 unfold nth;simp[List.getD_eq_getElem?_getD,h]
def ON{a b:List aA}(h:a.length=b.length):a.take 0++b.take (min b.length a.length)++a.drop (0+min b.length a.length)=b:=by
 rw[h,Nat.min_self];simp[h]
def aef{k:Int}{i n:Nat}{x y:Int}(hx:x=k.fdiv (2^(min n bf.bits)))(hn:n=i % 64)(hy:y=aw .u64 ((ak bf.bits x&&&ak bf.bits 1).toNat:Int)):y=1↔Nw k i:=by
 subst hn;have:min (i % 64) bf.bits=i % 64:=di (by show i % 64<=64;omega);rw[this]at hx;subst hx;subst hy;exact Iff.rfl
def aeg{k:Int}{wait:List (Int×aA×Unit)}{kept:List aA}{n:Nat}(h:Nw k n):(nj k wait kept n).set (nth iJ wait n).1.toNat (nth iJ wait n).2.1=nj k wait kept (n+1):=by
 rw[nj,π h]
def ZT{k:Int}{wait:List (Int×aA×Unit)}{kept:List aA}{n:Nat}(h:¬Nw k n):nj k wait kept n=nj k wait kept (n+1):=by
 rw[nj,ε h]
def Sw{d:Dk}(h:d.1.2.1=φ):stepOf d=(d,9):=by unfold stepOf;rw[π h]
def Sx{d:Dk}(h:d.1.2.1=ψ)(h0:d.1.1=0):stepOf d=(((-1,φ,()),d.2),9):=by unfold stepOf;rw[ε (by rw[h];decide),π h0]
def ZU{d:Dk}(h:d.1.2.1=ψ)(h0:¬d.1.1=0)(hf : -1<=d.1.1):stepOf d=(((if(-1:Int) > d.1.1-1 then(-1:Int)else d.1.1-1,d.1.2.1,()),d.2),0):=by
 unfold stepOf;rw[ε (by rw[h];decide),ε h0,h];by_cases c:0<d.1.1
 ·rw[π c,ε ω]
 ·rw[ε c,π ω,show d.1.1= -1 by omega]
def Kg{d:Dk}(h:(stepOf d).2=0):cC d=(((stepOf d).1.1,d.2.2.1,d.2.2.1,[],()),0):=by unfold cC;rw[π h]
def DU{d:Dk}(h:¬(stepOf d).2=0):cC d=stepOf d:=by unfold cC;rw[ε h]
def agF(i:Nat):az ((i:Int).tmod 64)=i % 64:=by rw[dv ω];omega
def sR{a:Int}(h0 : -9223372036854775808<=a)(h:a<9223372036854775808):ek.wrap a=a:=
 sC (by rw[uW];unfold aF;omega)
end Go.Mrl
namespace Go.Mrl
open Go.Vg
end Go.Mrl

namespace Go.Mrl
open Go.Vg
@[reducible] def cY:Ty:=.prod .str (.prod (.int .i64) .unit)
abbrev FE:=aA×(aA×Int×Unit)×Int×Unit
abbrev cU:=(Int×Unit)×(List FE×Int×Unit)×Unit
def dE(y:FE):Int:=y.2.2.1
def lQ(y:FE):aA:=y.1
def aU(x:cU)(s:aA):aA×Int×Int:=
 if dV cY x.2.1.1 s=φ then((kL cY x.2.1.1 s).1,(kL cY x.2.1.1 s).2.1,0)else([],0,5)
def cZ(x:cU)(s t:aA):cU×Int:=
 if ¬aN s=0 then(x,aN s)else if 1200<t.length then(x,2)
 else if(dV cY x.2.1.1 s=ψ/\x.2.1.1.length=6)\/x.1.1=1000000 then(x,8)
 else(((x.1.1+1,()),(hU cY x.2.1.1 s (t,x.1.1+1,()) x.2.1.2.1,rQ cY x.2.1.1 s x.2.1.2.1,()),()),0)
def fA(x:cU)(s:aA):cU×Int:=
 if dV cY x.2.1.1 s=φ then((x.1,(iW cY x.2.1.1 s,x.2.1.2.1,()),()),0)else(x,5)
def nZ(x:cU):List aA:=nN (x.2.1.1.map lQ)
def qo:cU:=((0,()),([],0,()),())
def ov{x:cU}{s:aA}(h:dV cY x.2.1.1 s=ψ):aU x s=([],0,5):=by unfold aU;rw[ε (by rw[h];simp)]
def sa{x:cU}{s:aA}(h:dV cY x.2.1.1 s=φ):aU x s=((kL cY x.2.1.1 s).1,(kL cY x.2.1.1 s).2.1,0):=by unfold aU;rw[π h]
def BP{x:cU}{s t:aA}(h:¬aN s=0):cZ x s t=(x,aN s):=by unfold cZ;rw[π h]
def BQ{x:cU}{s t:aA}(h:aN s=0)(h1:1200<t.length):cZ x s t=(x,2):=by unfold cZ;rw[ε (by simp[h]),π h1]
def BR{x:cU}{s t:aA}(h:aN s=0)(h1:¬1200<t.length)(h2:(dV cY x.2.1.1 s=ψ/\x.2.1.1.length=6)\/x.1.1=1000000):cZ x s t=(x,8):=by unfold cZ;rw[ε (by simp[h]),ε h1,π h2]
def GM{x:cU}{s t:aA}(h:aN s=0)(h1:¬1200<t.length)(h2:¬((dV cY x.2.1.1 s=ψ/\x.2.1.1.length=6)\/x.1.1=1000000)) :
  cZ x s t=(((x.1.1+1,()),(hU cY x.2.1.1 s (t,x.1.1+1,()) x.2.1.2.1,rQ cY x.2.1.1 s x.2.1.2.1,()),()),0):=by unfold cZ;rw[ε (by simp[h]),ε h1,ε h2]
def pa{x:cU}{s:aA}(h:dV cY x.2.1.1 s=ψ):fA x s=(x,5):=by unfold fA;rw[ε (by rw[h];simp)]
def n5{x:cU}{s:aA}(h:dV cY x.2.1.1 s=φ):fA x s=((x.1,(iW cY x.2.1.1 s,x.2.1.2.1,()),()),0):=by unfold fA;rw[π h]
def ZV{es:List FE}{seen:List Int}{y:FE}(h:y∈lr cY es seen):(lr cY es (seen++[dE y])).length<(lr cY es seen).length:=by
 have e:lr cY es (seen++[dE y])=(lr cY es seen).filter fun z =>!(dE z == dE y):=by
  unfold lr;rw[List.filter_filter];apply List.filter_congr;intro z _;show(!(seen++[dE y]).contains (dE z))=_;rw[dy];simp[dE,and_comm]
 rw[e];exact fy.2 ⟨y,h,ς⟩
def Na{α β:Type}{f:α->β}{l:List α}(h:(l.map f).Nodup):l.Nodup:=by
 unfold ew at h ⊢;rw[dT]at h;exact h.imp fun hne e=>hne (by rw[e])
theorem BS{α:Type}[DecidableEq α]:∀{a b:List α},a.Nodup->(∀y∈a,y∈b)->a.length<=b.length
 |[],_,_,_=>by simp
 |x :: a,b,hn,hs=>by
  have hn':=cm.1 hn;have h1:(b.erase x).length=b.length-1:=List.length_erase_of_mem (hs x ς);have h2:0<b.length:=List.length_pos_of_mem (hs x ς);have:=BS (b:=b.erase x) hn'.2 fun y hy=>(List.mem_erase_of_ne (fun(e:y=x)=>hn'.1 (by rw[<-e];exact hy))).2 (hs y (by simp[hy]))
  simp only[cy];omega
def OO{es x:List FE}(hs:∀y∈x,y∈es)(hn:(x.map dE).Nodup):x.length<=es.length:=by
 have h1:=Na hn;exact BS h1 hs
structure tA (es:List FE) (x:List FE):Prop where
 sub:∀y∈x,y∈es
 nodup:(x.map dE).Nodup
def tA.more{es x:List FE}{y:FE}(h:tA es x)(hy:y∈lr cY es (x.map dE)):tA es (x++[y]):=by
 unfold lr at hy;have hy':=ec.1 hy;have hn:dE y∉x.map dE:=by
  have:=hy'.2;simpa[dE]using this
 refine⟨fun z hz =>?_,?_⟩
 ·rcases ba.1 hz with hz|hz
  ·exact h.sub z hz
  ·simp at hz;subst hz;exact hy'.1
 ·rw[ei,ey]
  refine⟨h.nodup,ς,fun a ha b hb =>?_⟩;simp at hb;subst hb;exact fun e=>hn (e▸ha)
def BT{α β:Type}{f:α->β}{l:List α}(h:(l.map f).Nodup):l.Nodup:=by
 unfold ew at h ⊢;rw[dT]at h;exact h.imp fun hne e=>hne (by rw[e])
def born_inj:∀{es:List FE},(es.map dE).Nodup->∀{a b:FE},a∈es->b∈es->dE a=dE b->a=b
 |[],_,_,_,h,_,_=>by simp at h
 |y :: r,hn,a,b,ha,hb,e=>by
  simp only[aj,cm]at hn;rcases ag.1 ha with ha'|ha' <;> rcases ag.1 hb with hb'|hb'
  ·rw[ha',hb']
  ·exact(hn.1 (by rw[<-ha',e];exact bg hb')).elim
  ·exact(hn.1 (by rw[<-hb',<-e];exact bg ha')).elim
  ·exact born_inj hn.2 ha' hb' e
def tA.all{es x:List FE}(h:tA es x)(hn:(es.map dE).Nodup)(hl:lr cY es (x.map dE)=[]):x.Perm es:=by
 refine(List.perm_ext_iff_of_nodup (BT h.nodup) (BT hn)).2 fun y=>⟨h.sub y,fun hy =>?_⟩
 have hin:dE y∈x.map dE:=by
  apply aq;intro hc;have:y∈lr cY es (x.map dE):=ec.2 ⟨hy,by simpa[dE]using hc⟩;rw[hl]at this;simp at this
 obtain⟨z,hz,e⟩:=bj.1 hin;have:=born_inj hn (h.sub z hz) hy e;rw[<-this];exact hz
def OP{es x:List FE}(h:tA es x)(hn:(es.map dE).Nodup)(hl:lr cY es (x.map dE)=[]):nN (x.map lQ)=nN (es.map lQ):=M9 ((h.all hn hl).map lQ)
def at_mem:∀{es:List FE} {y:FE},(es.map dE).Nodup->y∈es->AF cY es (dE y)=y/\uH cY es (dE y)=φ
 |[],_,_,h=>by simp at h
 |z :: r,y,hn,hy=>by
  simp only[aj,cm]at hn;rcases ag.1 hy with rfl|hy
  ·exact⟨by rw[AF];exact π rfl,by rw[uH];exact π rfl⟩
  ·have hne:¬dE z=dE y:=fun e=>hn.1 (by rw[e];exact bg hy)
   obtain⟨h1,h2⟩:=at_mem hn.2 hy;exact⟨by rw[AF];exact(ε hne).trans h1,by rw[uH];exact(ε hne).trans h2⟩
def GN(l:List Int)(a:Int):rR (l++[a])=a:=by simp[rR]
abbrev RF:=aA×aA×Int×Unit
abbrev RS:=List RF×Int×Unit
def ko(y:RF):aA:=y.1
def iu(s:aA)(y:RF):Bool:=!(y.1 == s)
def bM:List RF->aA->aA×Int×Int
 |[],_=>([],0,5)
 |y :: r,s=>if y.1=s then(y.2.1,y.2.2.1,0)else bM r s
def oG(s:aA)(e:RF):List RF->List RF
 |[]=>[e]
 |y :: r=>if(bd s y.1 || s == y.1)=φ then e :: (y :: r).filter (iu s)else y :: oG s e r
def jk(x:RS)(s t:aA):RS×Int:=
 if ¬aN s=0 then(x,aN s)else if 1200<t.length then(x,2)
 else if(0<(bM x.1 s).2.2/\x.1.length=6)\/x.2.1=1000000 then(x,8)
 else((oG s (s,t,x.2.1+1,()) x.1,x.2.1+1,()),0)
def kz(x:RS)(s:aA):RS×Int:=if(x.1.filter (iu s)).length=x.1.length then(x,5)else((x.1.filter (iu s),x.2),0)
def zG(L:List RF)(s:aA):(bM L s).2.2=0\/(bM L s).2.2=5:=by
 induction L with
 |nil=>exact .inr rfl
 |cons y r ih=>unfold bM;split;exact .inl rfl;exact ih
def wI(y:FE):RF:=(y.1,y.2.1.1,y.2.1.2.1,())
def yb(L:List RF):Prop:=L.Pairwise fun a b=>qA a.1 b.1
structure dZ (x:cU) (r:RS):Prop where
 now:r.2.1=x.1.1
 lo:0<=x.1.1
 hi:x.1.1<=1000000
 len:x.2.1.1.length<=6
 born:(x.2.1.1.map dE).Nodup
 old:∀y∈x.2.1.1,dE y<x.2.1.2.1
 I3:yb r.1
 perm:r.1.Perm (x.2.1.1.map wI)
def dZ.new:dZ qo ([],0,()):=⟨rfl,ax _,δ,δ,δ,fun y hy=>by simp[qo]at hy,.nil,.refl _⟩
def BU{L:List RF}(h:yb L):(L.map ko).Nodup:=by
 unfold ew;rw[dT];exact h.imp fun hlt e=>by unfold ko at e;rw[e]at hlt;exact r7 _ hlt
def dZ.names{x:cU}{r:RS}(h:dZ x r):(x.2.1.1.map lQ).Nodup:=by
 have h1:=(h.perm.map ko).nodup_iff.1 (BU h.I3);rw[dt]at h1;exact h1
def Kh:∀{L:List RF} {s:aA},(L.map ko).Nodup->∀y∈L,y.1=s->bM L s=(y.2.1,y.2.2.1,0)
 |[],_,_,_,h,_=>by simp at h
 |z :: r,s,hn,y,hy,e=>by
  simp only[aj,cm]at hn;unfold bM;rcases ag.1 hy with rfl|hy
  ·rw[π e]
  ·have:¬z.1=s:=fun e2=>hn.1 (by rw[show ko z=ko y from e2.trans e.symm];exact bg hy)
   rw[ε this];exact Kh hn.2 y hy e
def zH:∀{L:List RF} {s:aA},(∀y∈L,¬y.1=s)->bM L s=([],0,5)
 |[],_,_=>rfl
 |z :: r,s,h=>by
  unfold bM;rw[ε (h z ς)];exact zH fun y hy=>h y (by simp[hy])
def oH:∀{es:List FE} {s:aA},dV cY es s=φ↔∃y∈es,y.1=s
 |[],_=>by simp[dV]
 |z :: r,s=>by
  unfold dV;by_cases c:z.1=s
  ·simp[c]
  ·rw[ε c,oH];simp[c]
def zI:∀{es:List FE} {s:aA},(es.map lQ).Nodup->∀y∈es,y.1=s->kL cY es s=y.2.1
 |[],_,_,_,h,_=>by simp at h
 |z :: r,s,hn,y,hy,e=>by
  simp only[aj,cm]at hn;unfold kL;rcases ag.1 hy with rfl|hy
  ·rw[π e]
  ·have:¬z.1=s:=fun e2=>hn.1 (by rw[show lQ z=lQ y from e2.trans e.symm];exact bg hy)
   rw[ε this];exact zI hn.2 y hy e
def dZ.read{x:cU}{r:RS}(h:dZ x r)(s:aA):aU x s=bM r.1 s:=by
 by_cases c:dV cY x.2.1.1 s=φ
 ·obtain⟨y,hy,e⟩:=oH.1 c
  rw[sa c,zI h.names y hy e];exact(Kh (BU h.I3) (wI y) (h.perm.mem_iff.2 (bg hy)) e).symm
 ·rw[ov (by simpa using c)]
  refine(zH fun y hy e=>c ?_).symm;obtain⟨z,hz,rfl⟩:=bj.1 (h.perm.mem_iff.1 hy);exact oH.2 ⟨z,hz,e⟩
def dZ.list{x:cU}{r:RS}(h:dZ x r):nZ x=r.1.map ko:=by
 unfold nZ;refine OI ?_ ?_
 ·have:=h.perm.map ko
  rw[dt]at this;exact this
 ·rw[dT]
  exact h.I3.imp tX
def ju{s:aA}{y:RF}:iu s y=φ↔¬y.1=s:=by simp[iu]
def OQ{s:aA}{e:RF}:∀{L:List RF} {y:RF},y∈oG s e L->y=e\/y∈L
 |[],y,h=>by simp[oG]at h;exact .inl h
 |z :: r,y,h=>by
  unfold oG at h;split at h
  ·rcases ag.1 h with h|h
   ·exact .inl h
   ·exact .inr (ec.1 h).1
  ·rcases ag.1 h with rfl|h
   ·exact .inr ς
   ·rcases OQ h with h|h
    ·exact .inl h
    ·exact .inr (by simp[h])
def not_le{s a:aA}(h:¬(bd s a || s == a)=φ):qA a s:=by
 simp at h;exact BL (a:=a) (b:=s) (by unfold qQ qA;rw[h.1];simp) (fun e=>h.2 e.symm)
def DV{s:aA}{e:RF}(he:e.1=s):∀{L:List RF},yb L->yb (oG s e L)
 |[],_=>by simp[oG,yb]
 |z :: r,h=>by
  have h':=bx.1 h;unfold oG;split
  ·rename_i c
   refine bx.2 ⟨fun y hy =>?_,h.filter _⟩;have hy':=ec.1 hy;have hn:=ju.1 hy'.2;have hz:qQ s z.1:=by
    simp at c;rcases c with c|rfl
    ·exact tX c
    ·exact OG _
   have hzy:qQ z.1 y.1:=by
    rcases ag.1 hy'.1 with e2|hy2
    ·rw[e2];exact OG _
    ·exact tX (h'.1 y hy2)
   rw[he];exact BL (BK hz hzy) (fun e2=>hn e2.symm)
  ·rename_i c
   have hlt:=not_le c;refine bx.2 ⟨fun y hy =>?_,DV he h'.2⟩;rcases OQ hy with rfl|hy
   ·rw[he];exact hlt
   ·exact h'.1 y hy
def filter_all{s:aA}:∀{L:List RF},(∀y∈L,¬y.1=s)->L.filter (iu s)=L:=fun h=>List.filter_eq_self.2 fun y hy=>ju.2 (h y hy)
def Ki{s:aA}{e:RF}:∀{L:List RF},yb L->(oG s e L).Perm (e :: L.filter (iu s))
 |[],_ =>.refl _
 |z :: r,h=>by
  have h':=bx.1 h;unfold oG;split
  ·exact .refl _
  ·rename_i c
   have hlt:=not_le c;have hz:iu s z=φ:=ju.2 fun e=>by rw[e]at hlt;exact r7 _ hlt
   rw[bp,π hz];exact((Ki h'.2).cons z).trans (eu e z _)
def BV{s:aA}{v:aA×Int×Unit}{c:Int}:∀{es:List FE},(es.map lQ).Nodup->((hU cY es s v c).map wI).Perm ((s,v.1,v.2.1,()) :: (es.map wI).filter (iu s))
 |[],_ =>.refl _
 |z :: r,hn=>by
  simp only[aj,cm]at hn;unfold hU;by_cases e:z.1=s
  ·rw[π e]
   have h1:iu s (wI z)=ψ:=by
    cases h:iu s (wI z)with
    |false=>rfl
    |true=>exact absurd e (ju.1 h)
   rw[aj,aj,bp,ε (by rw[h1];simp),filter_all]
   ·exact .refl _
   ·intro y hy e2
    obtain⟨z2,hz2,rfl⟩:=bj.1 hy;exact hn.1 (by rw[show lQ z=lQ z2 from e.trans (show s=z2.1 from e2.symm)];exact bg hz2)
  ·rw[ε e]
   have h1:iu s (wI z)=φ:=ju.2 e;rw[aj,aj,bp,π h1];exact((BV hn.2).cons (wI z)).trans (eu _ _ _)
def wJ{s:aA}{v:aA×Int×Unit}{c:Int}:∀{es:List FE},(hU cY es s v c).map dE=if dV cY es s=φ then es.map dE else es.map dE++[c]
 |[]=>rfl
 |z :: r=>by
  unfold hU dV;by_cases e:z.1=s
  ·rw[π e,π e];rfl
  ·rw[ε e,ε e,aj,wJ]
   split <;> rfl
def OS{s:aA}:∀{es:List FE},(es.map lQ).Nodup->(iW cY es s).map wI=(es.map wI).filter (iu s)
 |[],_=>rfl
 |z :: r,hn=>by
  simp only[aj,cm]at hn;unfold iW;by_cases e:z.1=s
  ·have h1:¬iu s (wI z)=φ:=fun h=>ju.1 h e
   rw[π e,aj,bp,ε h1,filter_all];intro y hy e2;obtain⟨z2,hz2,rfl⟩:=bj.1 hy;exact hn.1 (by rw[show lQ z=lQ z2 from e.trans (show s=z2.1 from e2.symm)];exact bg hz2)
  ·have h1:iu s (wI z)=φ:=ju.2 e
   rw[ε e,aj,aj,bp,π h1,OS hn.2]
def sU{s:aA}:∀{es:List FE},(iW cY es s).Sublist es
 |[] =>.refl _
 |z :: r=>by
  unfold iW;split
  ·exact List.sublist_cons_self _ _
  ·exact sU.cons_cons _
def dZ.has{x:cU}{r:RS}(h:dZ x r)(s:aA):0<(bM r.1 s).2.2↔dV cY x.2.1.1 s=ψ:=by
 rw[<-h.read s];cases c:dV cY x.2.1.1 s with
 |true=>rw[sa c];simp
 |false=>rw[ov c];simp
def dZ.write{x:cU}{r:RS}(h:dZ x r)(s t:aA):dZ (cZ x s t).1 (jk r s t).1/\(cZ x s t).2=(jk r s t).2:=by
 have hlen:r.1.length=x.2.1.1.length:=by rw[h.perm.length_eq,dj]
 have hc:((dV cY x.2.1.1 s=ψ/\x.2.1.1.length=6)\/x.1.1=1000000)↔((0<(bM r.1 s).2.2/\r.1.length=6)\/r.2.1=1000000):=by rw[h.has,hlen,h.now]
 by_cases h1:aN s=0
 ·by_cases h2:1200<t.length
  ·rw[BQ h1 h2]
   unfold jk;rw[ε (by simp[h1]),π h2];exact⟨h,rfl⟩
  ·by_cases h3:(dV cY x.2.1.1 s=ψ/\x.2.1.1.length=6)\/x.1.1=1000000
   ·rw[BR h1 h2 h3]
    unfold jk;rw[ε (by simp[h1]),ε h2,π (hc.1 h3)];exact⟨h,rfl⟩
   ·rw[GM h1 h2 h3]
    unfold jk;rw[ε (by simp[h1]),ε h2,ε (fun h'=>h3 (hc.2 h'))];refine⟨⟨by rw[h.now],by have:=h.lo;simp only;omega,by have:=h.hi;simp only;omega,?_,?_,?_,DV (s:=s) (e:=(s,t,r.2.1+1,())) rfl h.I3,?_⟩,rfl⟩
    ·have hp:=(BV (s:=s) (v:=(t,x.1.1+1,())) (c:=x.2.1.2.1) h.names).length_eq
     have hb:=congrArg bq (wJ (s:=s) (v:=(t,x.1.1+1,())) (c:=x.2.1.2.1) (es:=x.2.1.1));simp only[dj]at hb;show(hU cY x.2.1.1 s (t,x.1.1+1,()) x.2.1.2.1).length<=6;rw[hb];have:=h.len;cases c:dV cY x.2.1.1 s with
     |true=>simpa using this
     |false=>
      have:¬x.2.1.1.length=6:=fun e=>h3 (.inl ⟨c,e⟩)
      simp;omega
    ·show((hU cY x.2.1.1 s (t,x.1.1+1,()) x.2.1.2.1).map dE).Nodup
     rw[wJ];split
     ·exact h.born
     ·rw[ey]
      refine⟨h.born,ς,fun a ha b hb e =>?_⟩;simp at hb;obtain⟨y,hy,rfl⟩:=bj.1 ha;have:=h.old y hy;omega
    ·intro y hy
     have hy':dE y∈(hU cY x.2.1.1 s (t,x.1.1+1,()) x.2.1.2.1).map dE:=bg hy;rw[wJ]at hy';show dE y<rQ cY x.2.1.1 s x.2.1.2.1;unfold rQ;split at hy'
     ·rename_i c
      rw[π c];obtain⟨z,hz,e⟩:=bj.1 hy';rw[<-e];exact h.old z hz
     ·rename_i c
      rw[ε c];rcases ba.1 hy' with hy'|hy'
      ·obtain⟨z,hz,e⟩:=bj.1 hy'
       have:=h.old z hz;omega
      ·simp at hy';omega
    ·refine(Ki h.I3).trans ?_
     rw[h.now];exact((h.perm.filter _).cons _).trans (BV (v:=(t,x.1.1+1,())) (c:=x.2.1.2.1) h.names).symm
 ·rw[BP h1]
  unfold jk;rw[π h1];exact⟨h,rfl⟩
def dZ.remove{x:cU}{r:RS}(h:dZ x r)(s:aA):dZ (fA x s).1 (kz r s).1/\(fA x s).2=(kz r s).2:=by
 have hp:(r.1.filter (iu s)).Perm ((iW cY x.2.1.1 s).map wI):=by rw[OS h.names];exact h.perm.filter _
 cases c:dV cY x.2.1.1 s with
 |false=>
  have hall:r.1.filter (iu s)=r.1:=filter_all fun y hy e=>by
   obtain⟨z,hz,rfl⟩:=bj.1 (h.perm.mem_iff.1 hy);have:=oH.2 ⟨z,hz,e⟩;rw[c]at this;cases this
  rw[pa c];unfold kz;rw[π (by rw[hall])];exact⟨h,rfl⟩
 |true=>
  obtain⟨y,hy,e⟩:=oH.1 c;have hlt:(r.1.filter (iu s)).length<r.1.length:=fy.2 ⟨wI y,h.perm.mem_iff.2 (bg hy),by rw[ju];exact fun h=>h e⟩;rw[n5 c];unfold kz;rw[ε ω];refine⟨⟨h.now,h.lo,h.hi,cz sU.length_le h.len,(sU.map dE).nodup h.born,fun y hy=>h.old y (sU.subset hy),List.Pairwise.filter _ h.I3,hp⟩,rfl⟩
def pQ{L:List RF}{i:Nat}(h:i<L.length):L.drop i=nth dD L i :: L.drop (i+1):=jl (t:=dD) h
def OT:∀{L:List RF} {s:aA} {i:Nat},(∀j,j<i->¬(nth dD L j).1=s)->i<L.length->(nth dD L i).1=s->bM L s=((nth dD L i).2.1,(nth dD L i).2.2.1,0)
 |[],_,_,_,h,_=>by simp at h
 |y :: r,s,0,_,_,e=>by unfold bM;rw[π (show y.1=s from e)];rfl
 |y :: r,s,i+1,hn,h,e=>by
  unfold bM;rw[ε (show ¬y.1=s from hn 0 ω)];exact OT (L:=r) (i:=i) (fun j hj=>hn (j+1) ω) (by simpa using h) e
def ZW{L:List RF}{s:aA}(h:∀j,j<L.length->¬(nth dD L j).1=s):bM L s=([],0,5):=
 zH fun y hy e=>by
  obtain⟨j,hj,rfl⟩:=gO (t:=dD) hy;exact h j hj e
def dN(L:List RF)(s:aA)(e:RF)(i:Nat)(laid:Bool)(out:List RF):Prop:=
 (laid=ψ->out++oG s e (L.drop i)=oG s e L)/\(laid=φ->out++(L.drop i).filter (iu s)=oG s e L)/\out.length<=i+1/\(laid=ψ->out.length<=i)
def dN.start(L:List RF)(s:aA)(e:RF):dN L s e 0 ψ []:=⟨fun _=>rfl,fun h=>(by cases h),ς,fun _=>by simp⟩
def dN.put{L:List RF}{s:aA}{e:RF}{i:Nat}{out:List RF}(h:dN L s e i ψ out)(hi:i<L.length)(hle:(bd s (nth dD L i).1 || s == (nth dD L i).1)=φ)
  (hne:¬(nth dD L i).1=s):dN L s e (i+1) φ (out++[e]++[nth dD L i]):=by
 refine⟨fun h=>by(cases h),fun _ =>?_,by have:=h.2.2.2 rfl;simp;omega,fun h=>by cases h⟩;rw[<-h.1 rfl,pQ hi,oG,π hle,bp,π (ju.2 hne)];simp
def dN.Uy{L:List RF}{s:aA}{e:RF}{i:Nat}{out:List RF}(h:dN L s e i ψ out)(hi:i<L.length)(hle:(bd s (nth dD L i).1 || s == (nth dD L i).1)=φ)
  (hne:(nth dD L i).1=s):dN L s e (i+1) φ (out++[e]):=by
 refine⟨fun h=>by(cases h),fun _ =>?_,by have:=h.2.2.2 rfl;simp;omega,fun h=>by cases h⟩;rw[<-h.1 rfl,pQ hi,oG,π hle,bp,ε (fun h=>ju.1 h hne)];simp
def dN.low{L:List RF}{s:aA}{e:RF}{i:Nat}{out:List RF}(h:dN L s e i ψ out)(hi:i<L.length)(hle:(bd s (nth dD L i).1 || s == (nth dD L i).1)=ψ):dN L s e (i+1) ψ (out++[nth dD L i]):=by
 refine⟨fun _ =>?_,fun h=>by(cases h),by have:=h.2.2.2 rfl;simp;omega,fun _=>by have:=h.2.2.2 rfl;simp;omega⟩;rw[<-h.1 rfl,pQ hi,oG,ε (by rw[hle];simp)];simp
def dN.high{L:List RF}{s:aA}{e:RF}{i:Nat}{out:List RF}(h:dN L s e i φ out)(hi:i<L.length)(hne:¬(nth dD L i).1=s):dN L s e (i+1) φ (out++[nth dD L i]):=by
 refine⟨fun h=>by(cases h),fun _ =>?_,by have:=h.2.2.1;simp;omega,fun h=>by cases h⟩;rw[<-h.2.1 rfl,pQ hi,bp,π (ju.2 hne)];simp
def dN.skip{L:List RF}{s:aA}{e:RF}{i:Nat}{out:List RF}(h:dN L s e i φ out)(hi:i<L.length)(hne:(nth dD L i).1=s):dN L s e (i+1) φ out:=by
 refine⟨fun h=>by(cases h),fun _ =>?_,by have:=h.2.2.1;omega,fun h=>by cases h⟩;rw[<-h.2.1 rfl,pQ hi,bp,ε (fun h=>ju.1 h hne)]
def dN.last{L:List RF}{s:aA}{e:RF}{i:Nat}{out:List RF}(h:dN L s e i ψ out)(hi:L.length<=i):out++[e]=oG s e L:=by
 rw[<-h.1 rfl,bm hi];rfl
def dN.all{L:List RF}{s:aA}{e:RF}{i:Nat}{out:List RF}(h:dN L s e i φ out)(hi:L.length<=i):out=oG s e L:=by
 rw[<-h.2.1 rfl,bm hi];simp
def ZX{L out T:List RF}{s:aA}{i:Nat}(h:out++(L.drop i).filter (iu s)=T)(hi:i<L.length)(hne:¬(nth dD L i).1=s):out++[nth dD L i]++(L.drop (i+1)).filter (iu s)=T:=by
 rw[<-h,pQ hi,bp,π (ju.2 hne)];simp
def ZY{L out T:List RF}{s:aA}{i:Nat}(h:out++(L.drop i).filter (iu s)=T)(hi:i<L.length)(hne:(nth dD L i).1=s):out++(L.drop (i+1)).filter (iu s)=T:=by
 rw[<-h,pQ hi,bp,ε (fun h=>ju.1 h hne)]
def OU{L out T:List RF}{s:aA}{i:Nat}(h:out++(L.drop i).filter (iu s)=T)(hi:L.length<=i):out=T:=by
 rw[<-h,bm hi];simp
def GO{L:List RF}{i:Nat}(hi:i<L.length):(L.take i).map ko++[(nth dD L i).1]=(L.take (i+1)).map ko:=by
 rw[mf (t:=dD) hi,ei];rfl
def Sy{x:RS}{s t:aA}(h:¬aN s=0):jk x s t=(x,aN s):=by unfold jk;rw[π h]
def Sz{x:RS}{s t:aA}(h:aN s=0)(h1:1200<t.length):jk x s t=(x,2):=by unfold jk;rw[ε (by simp[h]),π h1]
def SA{x:RS}{s t:aA}(h:aN s=0)(h1:¬1200<t.length)(h2:(0<(bM x.1 s).2.2/\x.1.length=6)\/x.2.1=1000000):jk x s t=(x,8):=by unfold jk;rw[ε (by simp[h]),ε h1,π h2]
def Kj{x:RS}{s t:aA}(h:aN s=0)(h1:¬1200<t.length)(h2:¬((0<(bM x.1 s).2.2/\x.1.length=6)\/x.2.1=1000000)) :
  jk x s t=((oG s (s,t,x.2.1+1,()) x.1,x.2.1+1,()),0):=by unfold jk;rw[ε (by simp[h]),ε h1,ε h2]
def WR{x:RS}{s:aA}(h:(x.1.filter (iu s)).length=x.1.length):kz x s=(x,5):=by unfold kz;rw[π h]
def SB{x:RS}{s:aA}(h:¬(x.1.filter (iu s)).length=x.1.length):kz x s=((x.1.filter (iu s),x.2),0):=by unfold kz;rw[ε h]
def vL:aA:=[119,114,105,116,101]
def OV(x:cU)(s t:aA):0<=(cZ x s t).2:=by
 unfold cZ;split
 ·exact cO s
 ·split
  ·simp
  ·split <;> simp
def Nb(x:cU)(s:aA):0<=(fA x s).2:=by unfold fA;split <;> simp
def dZ.ai1{x:cU}{r:RS}(h:dZ x r):r.1.length<=6:=by rw[h.perm.length_eq,dj];exact h.len
def dZ.pre{x:cU}{r:RS}(h:dZ x r):x.2.1.1.length<=6/\0<=x.1.1/\x.1.1<=1000000:=⟨h.len,h.lo,h.hi⟩
def dZ.OW{x:cU}{r:RS}(h:dZ x r):r.1.length<=6/\0<=r.2.1/\r.2.1<=1000000:=⟨h.ai1,by rw[h.now];exact h.lo,by rw[h.now];exact h.hi⟩
def dZ.aeh{x:cU}{r:RS}(h:dZ x r):x.2.1.1.length<=6/\(x.2.1.1.map dE).Nodup:=⟨h.len,h.born⟩
def uZ:aA:=[114,101,109,111,118,101]
structure jm (x:cU):Prop where
 ic:∃r,dZ x r
 WS:∀y∈x.2.1.1,y.2.1.2.1<=x.1.1
def jm.new:jm qo:=⟨⟨_,dZ.new⟩,fun y hy=>by simp[qo]at hy⟩
def OX{s:aA}{v:aA×Int×Unit}{c:Int}:∀{es:List FE} {y:FE},y∈hU cY es s v c->y.2.1=v\/y∈es
 |[],y,h=>by simp[hU]at h;subst h;exact .inl rfl
 |z :: r,y,h=>by
  unfold hU at h;split at h
  ·rcases ag.1 h with rfl|h
   ·exact .inl rfl
   ·exact .inr (by simp[h])
  ·rcases ag.1 h with rfl|h
   ·exact .inr ς
   ·rcases OX h with h|h
    ·exact .inl h
    ·exact .inr (by simp[h])
def oX(x:cU)(s t:aA):((cZ x s t).1=x/\¬(cZ x s t).2=0)\/
  ((cZ x s t).1=((x.1.1+1,()),(hU cY x.2.1.1 s (t,x.1.1+1,()) x.2.1.2.1,rQ cY x.2.1.1 s x.2.1.2.1,()),())/\(cZ x s t).2=0):=by
 unfold cZ;split
 ·rename_i h;exact .inl ⟨rfl,h⟩
 ·split
  ·exact .inl ⟨rfl,ς⟩
  ·split
   ·exact .inl ⟨rfl,ς⟩
   ·exact .inr ⟨rfl,rfl⟩
def jm.write{x:cU}(h:jm x)(s t:aA):jm (cZ x s t).1/\x.1.1<=(cZ x s t).1.1.1:=by
 obtain⟨r,hr⟩:=h.ic;have hg:=(hr.write s t).1;rcases oX x s t with⟨e,_⟩|⟨e,_⟩
 ·rw[e];exact⟨h,ax _⟩
 ·rw[e]at hg ⊢
  refine⟨⟨⟨_,hg⟩,fun y hy =>?_⟩,by simp only;omega⟩;rcases OX hy with hy|hy
  ·rw[hy];exact ax _
  ·have:=h.WS y hy;simp only;omega
def jm.remove{x:cU}(h:jm x)(s:aA):jm (fA x s).1/\x.1.1<=(fA x s).1.1.1:=by
 obtain⟨r,hr⟩:=h.ic;have hg:=(hr.remove s).1;cases c:dV cY x.2.1.1 s with
 |false=>rw[pa c];exact⟨h,ax _⟩
 |true=>
  rw[n5 c]at hg ⊢;exact⟨⟨⟨_,hg⟩,fun y hy=>h.WS y (sU.subset hy)⟩,ax _⟩
def WT{x:cU}(h:jm x){s:aA}(hn:(aP (aU x s).2.2).isNil=φ):(aU x s).2.1<=x.1.1:=by
 have hc:=aZ.1 hn;cases c:dV cY x.2.1.1 s with
 |false=>rw[ov c]at hc;simp at hc
 |true=>
  obtain⟨r,hr⟩:=h.ic;obtain⟨y,hy,e⟩:=oH.1 c;rw[sa c,zI hr.names y hy e];exact h.WS y hy
def vM{s k:aA}{v:aA×Int×Unit}{c:Int}:∀{es:List FE},dV cY (hU cY es s v c) k=(ρ (k=s) || dV cY es k)/\kL cY (hU cY es s v c) k=if k=s then v else kL cY es k
 |[]=>by
  by_cases h:s=k
  ·subst h;simp[hU,dV,kL]
  ·have h':¬k=s:=fun e=>h e.symm
   simp[hU,dV,kL,h,h']
 |z :: r=>by
  obtain⟨i1,i2⟩:=vM (s:=s) (k:=k) (v:=v) (c:=c) (es:=r);unfold hU;by_cases e:z.1=s
  ·rw[π e]
   by_cases h:s=k
   ·subst h;simp[dV,kL]
   ·have h':¬k=s:=fun e=>h e.symm
    have h2:¬z.1=k:=fun e2=>h (e.symm.trans e2)
    simp[dV,kL,h,h',h2]
  ·rw[ε e]
   by_cases h:z.1=k
   ·have h':¬k=s:=fun e2=>e (h.trans e2)
    simp[dV,kL,h,h']
   ·simp only[dV,kL,ε h];exact⟨i1,i2⟩
def WU{x:cU}{s k t:aA}(h:¬k=s):aU (cZ x s t).1 k=aU x k:=by
 rcases oX x s t with⟨e,_⟩|⟨e,_⟩
 ·rw[e]
 ·rw[e]
  unfold aU;simp only[(vM (s:=s) (k:=k) (v:=(t,x.1.1+1,())) (c:=x.2.1.2.1) (es:=x.2.1.1)).1,(vM (s:=s) (k:=k) (v:=(t,x.1.1+1,())) (c:=x.2.1.2.1) (es:=x.2.1.1)).2,h,decide_false,Bool.false_or,if_false]
def ZZ{x:cU}{s t:aA}(h:(aP (cZ x s t).2).isNil=φ):aU (cZ x s t).1 s=(t,x.1.1+1,0):=by
 rcases oX x s t with⟨_,e⟩|⟨e,_⟩
 ·exact absurd (aZ.1 h) e
 ·rw[e]
  unfold aU;simp only[(vM (s:=s) (k:=s) (v:=(t,x.1.1+1,())) (c:=x.2.1.2.1) (es:=x.2.1.1)).1,(vM (s:=s) (k:=s) (v:=(t,x.1.1+1,())) (c:=x.2.1.2.1) (es:=x.2.1.1)).2];simp
def Z0{x:cU}{s t:aA}(h:(aP (cZ x s t).2).isNil=ψ):(cZ x s t).1=x:=by
 rcases oX x s t with⟨e,_⟩|⟨_,e⟩
 ·exact e
 ·rw[e]at h;cases h
def jm.pre{x:cU}(h:jm x):x.2.1.1.length<=6/\0<=x.1.1/\x.1.1<=1000000:=let⟨_,hr⟩:=h.ic;hr.pre
def _root_.Go.Vg.Uz:aA->UInt8
 |c :: _=>c
 |[]=>0
def qp(c:UInt8):List aA->aA
 |[]=>[]
 |[x]=>x
 |x :: y :: r=>x++c :: qp c (y :: r)
def parts(c:UInt8):aA->List aA
 |[]=>[[]]
 |b :: r=>if b=c then[] :: parts c r else match parts c r with
  |h :: t=>(b :: h) :: t
  |[]=>[[b]]
def ri(c:UInt8):∀s:aA,parts c s≠[]
 |[]=>by simp[parts]
 |b :: r=>by
  unfold parts;split
  ·simp
  ·split <;> simp
def mP{c b:UInt8}{r:aA}(h:b≠c):∃x t,parts c r=x :: t/\parts c (b :: r)=(b :: x) :: t:=by
 cases hp:parts c r with
 |nil=>exact absurd hp (ri c r)
 |cons x t=>
  refine⟨x,t,rfl,?_⟩
  conv=>lhs;unfold parts
  rw[ε h,hp]
def oY{c:UInt8}{r:aA}:parts c (c :: r)=[] :: parts c r:=by
 conv=>lhs;unfold parts
 rw[π rfl]
def nk{c:UInt8}:∀{x:aA},c∉x->parts c x=[x]
 |[],_=>rfl
 |b :: r,h=>by
  obtain⟨x,t,h1,h2⟩:=mP (c:=c) (b:=b) (r:=r) (fun e=>h (by simp[e]));rw[nk (x:=r) (fun e=>h (by simp[e]))]at h1;cases h1;exact h2
def iA{c:UInt8}:∀{x:aA} {s:aA},c∉x->parts c (x++c :: s)=x :: parts c s
 |[],s,_=>oY
 |b :: r,s,h=>by
  obtain⟨x,t,h1,h2⟩:=mP (c:=c) (b:=b) (r:=r++c :: s) (fun e=>h (by simp[e]));rw[iA (x:=r) (fun e=>h (by simp[e]))]at h1;cases h1;exact h2
def xp{c:UInt8}:∀{L:List aA},L≠[]->(∀y∈L,c∉y)->parts c (qp c L)=L
 |[],h,_=>absurd rfl h
 |[x],_,h=>nk (h x ς)
 |x :: y :: r,_,h=>by
  show parts c (x++c :: qp c (y :: r))=_;rw[iA (h x ς),xp ς fun z hz=>h z (cn _ hz)]
def tY(c:UInt8):∀(s:aA),(parts c s).length<=s.length+1
 |[]=>by simp[parts]
 |b :: r=>by
  by_cases h:b=c
  ·subst h;rw[oY];have:=tY b r;simp;omega
  ·obtain⟨x,t,h1,h2⟩:=mP (c:=c) (b:=b) (r:=r) h
   have:=tY c r;rw[h1]at this;rw[h2];simp at this ⊢;omega
def oI(c:UInt8):∀(s:aA),∀y∈parts c s,y.length<=s.length
 |[],y,h=>by simp[parts]at h;simp[h]
 |b :: r,y,h=>by
  by_cases hb:b=c
  ·subst hb;rw[oY]at h
   rcases ag.1 h with rfl|h
   ·simp
   ·have:=oI b r y h;simp;omega
  ·obtain⟨x,t,h1,h2⟩:=mP (c:=c) (b:=b) (r:=r) hb
   rw[h2]at h;rcases ag.1 h with rfl|h
   ·have:=oI c r x (by rw[h1];simp);simp;omega
   ·have:=oI c r y (by rw[h1];simp[h]);simp;omega
def BW{b c:UInt8}{l:aA}(h:b≠c):bu (b :: l) [c]=if bu l [c] == -1 then -1 else bu l [c]+1:=by
 rw[bu];simp[dk,Ne.symm h]
def BX{c:UInt8}{l:aA}:bu (c :: l) [c]=0:=by
 rw[bu];simp[dk]
def vN(c:UInt8):∀s:aA,dm [c] 0 (s.count c) s=parts c s
 |[]=>rfl
 |b :: l=>by
  by_cases h:b=c
  ·subst h
   rw[oY,List.count_cons_self,dm,BX,ε δ,<-vN b l];simp
  ·obtain⟨x,t,h1,h2⟩:=mP (c:=c) (b:=b) (r:=l) h
   rw[h2,List.count_cons_of_ne h];rw[<-vN c l]at h1;cases hk:l.count c with
   |zero=>
    rw[hk]at h1;simp only[dm]at h1 ⊢;cases h1;rfl
   |succ k=>
    rw[hk]at h1;have hi:bu l [c]≠-1:=by
     intro e;have:=Lib.count_miss (s:=l) (sub:=[c]) e;rw[Lib.count_one]at this;omega
    have hge:=Lib.index_ge l [c];rw[dm,ε (by simpa using hi)]at h1;obtain⟨i,e⟩:∃i:Nat,bu l [c]=i:=⟨(bu l [c]).toNat,ω⟩
    have e2:bu (b :: l) [c]=((i+1:Nat):Int):=by rw[BW h,ε (by simpa using hi),e];rfl
    rw[dm,e2,ε (by simp;omega)];rw[e]at h1;simp only[dx,Nat.add_zero,ed,fz,List.drop_succ_cons,List.cons.injEq]at h1 ⊢;exact⟨⟨aa,h1.1⟩,h1.2⟩
def n7(c:UInt8)(L:List aA):aA:=L.flatMap (· ++ [c])
def BY(c:UInt8)(x:aA)(L:List aA):n7 c (x :: L)=x++c :: n7 c L:=by simp[n7]
def Kk(c:UInt8)(L:List aA)(x:aA):n7 c (L++[x])=n7 c L++x++[c]:=by simp[n7]
def Kl{c:UInt8}:∀{L:List aA},L≠[]->n7 c L=qp c L++[c]
 |[],h=>absurd rfl h
 |[x],_=>by simp[n7,qp]
 |x :: y :: r,_=>by
  rw[BY,Kl (L:=y :: r) ς];simp[qp]
def zJ{c:UInt8}:∀{L:List aA} {x:aA},(∀y∈L,c∉y)->c∉x->parts c (n7 c L++x)=L++[x]
 |[],x,_,h=>by simp[n7,nk h]
 |y :: r,x,h,hx=>by
  rw[BY,c8,dn,iA (h y ς),zJ (fun z hz=>h z (cn _ hz)) hx];simp
def sV(x:aA)(c:UInt8):ae (x++[c]) [c]=x:=by
 have h:Lib.hasSuffix (x++[c]) [c]=φ:=by unfold Lib.hasSuffix;simp[List.isSuffixOf_iff_suffix]
 unfold ae;rw[π h];simp
def WV{c:UInt8}{L:List aA}(h:L≠[])(hf:∀y∈L,c∉y):parts c (ae (n7 c L) [c])=L:=by
 rw[Kl h,sV,xp h hf]
def lD(c:UInt8):Bool:=ρ (48<=c.toNat/\c.toNat<=57)
def rB{k:Nat}(h:k<10):(c1 (48+k)).toNat=48+k:=by
 rw[fj];omega
def nn:∀(u:Nat),∀c∈ah u,48<=c.toNat/\c.toNat<=57:=by
 intro u;induction u using ee with
 |_ u ih=>
  intro c hc;by_cases h:u<10
  ·rw[ah,dif_pos h]at hc
   simp only[ez]at hc;rw[hc,rB h];omega
  ·rw[ah,dif_neg h]at hc
   rcases ba.1 hc with hc|hc
   ·exact ih _ ω c hc
   ·simp only[ez]at hc
    rw[hc,rB (ch _ δ)];omega
def pR(u:Nat):ah u≠[]:=by
 rw[ah];split <;> simp
def kJ:∀(k u:Nat),u<10^(k+1)->(ah u).length<=k+1
 |0,u,h=>by rw[ah,dif_pos (by simpa using h)];simp
 |k+1,u,h=>by
  rw[ah];split
  ·simp
  ·have:=kJ k (u / 10) (by rw[Nat.pow_succ]at h;omega)
   simp;exact this
def jU(l:aA):Nat:=l.foldl (fun n c=>10*n+(c.toNat-48)) 0
def wK(l:aA)(c:UInt8):jU (l++[c])=10*jU l+(c.toNat-48):=by simp[jU]
def OY:∀u:Nat,jU (ah u)=u:=by
 intro u;induction u using ee with
 |_ u ih=>
  by_cases h:u<10
  ·rw[ah,dif_pos h]
   show 10*0+((c1 (48+u)).toNat-48)=u;rw[rB h];omega
  ·rw[ah,dif_neg h,wK,ih _ ω,rB (ch _ δ)];omega
def UA:∀(k:Nat) (l:aA),l.length=k->(∀c∈l,48<=c.toNat/\c.toNat<=57)->jU l<10^k
 |0,l,hk,_=>by rw[List.eq_nil_of_length_eq_zero hk];decide
 |k+1,l,hk,h=>by
  have hne:l≠[]:=by rintro rfl;simp at hk
  have e:=List.dropLast_concat_getLast hne;rw[<-e]at h ⊢;have h1:=UA k l.dropLast (by simp;omega) fun x hx=>h x (by simp[hx])
  have h2:=h (l.getLast hne) ς;rw[wK,Nat.pow_succ];omega
def Km:∀(l:aA) (c:UInt8) (a v:Nat),bw a l=.ok v->bw a (l++[c])=bw v [c]
 |[],c,a,v,h=>by simp[bw]at h;rw[h];rfl
 |b :: l,c,a,v,h=>by
  rw[dn,bw];rw[bw]at h;split at h
  ·rename_i hb
   rw[π hb];split at h
   ·cases h
   ·rename_i h1
    rw[ε h1];split at h
    ·cases h
    ·rename_i h2
     rw[ε h2];exact Km l c _ v h
  ·cases h
def OZ{v d:Nat}(hd:d<10)(h:10*v+d<18446744073709551616):bw v [c1 (48+d)]=.ok (10*v+d):=by
 unfold bw;rw[rB hd,π ω,ε ω,ε ω];unfold bw;congr 1;omega
def aei:∀u:Nat,u<18446744073709551616->bw 0 (ah u)=.ok u:=by
 intro u;induction u using ee with
 |_ u ih=>
  intro hu;by_cases h:u<10
  ·rw[ah,dif_pos h]
   have:=OZ (v:=0) (d:=u) h ω;simpa using this
  ·rw[ah,dif_neg h,Km _ _ _ _ (ih _ ω ω),OZ (ch _ δ) ω]
   congr 1;omega
def UB{u:Nat}(hu:u<18446744073709551616):Lib.parseMag (ah u)=.ok u:=by
 unfold Lib.parseMag;rw[ε (pR u),aei u hu]
def Kn{n:Int}(h0 : -9223372036854775808<=n)(h1:n<=9223372036854775807):cp (ab n)=.ok n:=by
 by_cases hn:n<0
 ·have hm:=UB (u:=n.natAbs) ω
  simp only[ab,π hn,cp];rw[π (Or.inr δ),hm];simp only;rw[ε ς,ε (by simp;omega)];simp;omega
 ·have hm:=UB (u:=n.toNat) ω
  simp only[ab,ε hn,cp];cases hd:ah n.toNat with
  |nil=>exact absurd hd (pR _)
  |cons c r=>
   have hc:=nn n.toNat c (by rw[hd];simp);rw[hd]at hm;simp only;rw[ε ω,hm];simp only;rw[ε ω,ε ω,ε ω];congr 1;omega
def dG(s:aA):Int×aR:=match cp s with
 |.ok n=>(n,.nil)
 |Lib.NumEnd.syntax=>(0,.other)
 |.range=>(Lib.atoiSat s,.other)
def dO(s:aA):Option Int:=match cp s with
 |.ok n=>if ab n=s then ξ n else χ
 |_=>χ
def Z1{n:Int}(h0 : -9223372036854775808<=n)(h1:n<=9223372036854775807):dO (ab n)=ξ n:=by
 unfold dO;rw[Kn h0 h1];simp
def tZ{s:aA}:(dO s).isNone=(!(dG s).2.isNil || !ρ (ab (dG s).1=s)):=by
 unfold dO dG;cases cp s with
 |ok v=>simp only[aR.isNil];by_cases h:ab v=s <;> simp[h]
 |range=>rfl
 |_=>rfl
def dH(s:aA):aA:=match s with
 |45 :: r=>r
 |_=>s
def mK(s:aA):Option Int:=
 if(dH s).length<1\/(dH s).length > 18\/((dH s).head?=ξ 48/\s.length > 1)then χ
 else if(dH s).all lD=φ then ξ (if(dH s).length<s.length then -(jU (dH s):Int)else(jU (dH s):Int))else χ
def O0{u:Nat}(h:(ah u).head?=ξ 48):u=0:=by
 revert h;induction u using ee with
 |_ u ih=>
  intro h;by_cases hu:u<10
  ·rw[ah,dif_pos hu]at h
   simp only[List.head?_cons,dr]at h;have:=congrArg UInt8.toNat h;rw[rB hu]at this;have h48:(48:UInt8).toNat=48:=rfl;omega
  ·rw[ah,dif_neg hu]at h
   have hne:=pR (u / 10);cases hd:ah (u / 10)with
   |nil=>exact absurd hd hne
   |cons c r=>
    rw[hd]at h;simp only[dn,List.head?_cons]at h;have:=ih (u / 10) ω (by rw[hd];exact h);omega
def ahl{s:aA}(h:∀c∈s,48<=c.toNat/\c.toNat<=57):dH s=s:=by
 unfold dH;split
 ·rename_i r
  have:=h 45 ς;have h45:(45:UInt8).toNat=45:=rfl;omega
 ·rfl
def Ko{n:Int}(h0 : -999999999999999999<=n)(h1:n<=999999999999999999):mK (ab n)=ξ n:=by
 have hall:∀u,(ah u).all lD=φ:=fun u=>by
  rw[bk];intro c hc;have:=nn u c hc;unfold lD;simp[this]
 by_cases hn:n<0
 ·have hm:dH (ab n)=ah n.natAbs:=by unfold ab;rw[π hn];rfl
  have hl:(ab n).length=(ah n.natAbs).length+1:=by unfold ab;rw[π hn];rfl
  have h3:=kJ 17 n.natAbs ω;have h4:=dp.2 (pR n.natAbs);unfold mK;rw[hm,ε (by
   rintro(h|h|⟨h,_⟩)
   ·omega
   ·omega
   ·have:=O0 h;omega),π (hall _),π ω,OY]
  congr 1;omega
 ·have hi:ab n=ah n.toNat:=by unfold ab;rw[ε hn]
  have hm:dH (ab n)=ah n.toNat:=by rw[hi];exact ahl (nn _)
  have h3:=kJ 17 n.toNat ω;have h4:=dp.2 (pR n.toNat);unfold mK;rw[hm,hi,ε (by
   rintro(h|h|⟨h,h'⟩)
   ·omega
   ·omega
   ·have h0:=O0 h
    rw[h0]at h';simp[ah]at h'),π (hall _),ε ω,OY]
  congr 1;omega
def Kp{n:Int}{c:UInt8}(h:c.toNat<=44):c∉ab n:=by
 intro hc;have h45:(45:UInt8).toNat=45:=rfl;unfold ab at hc;split at hc
 ·rcases ag.1 hc with rfl|hc
  ·omega
  ·have:=nn _ c hc;omega
 ·have:=nn _ c hc;omega
def mD(n:Int):Nat:=2*n.natAbs+(if n<0 then 1 else 0)
def ai2{n:Int}(h:n<0):mD (-n)<mD n:=by unfold mD;rw[ε ω,π h];omega
def ai3{n:Int}(h:10<=n):mD (n / 10)<mD n:=by unfold mD;rw[ε ω,ε ω];omega
def BZ{n:Int}(h:n<0):ab n=[45]++ab (-n):=by
 unfold ab;rw[π h,ε ω];congr 2;omega
def oJ{n:Int}(h:0<=n)(h':n<10):ab n=[c1 (48+n).toNat]:=by
 unfold ab;rw[ε ω,ah,dif_pos ω];congr 2;omega
def Kq{n:Int}(h:10<=n):ab n=ab (n / 10)++[c1 (48+n % 10).toNat]:=by
 unfold ab;rw[ε ω,ε ω]
 conv=>lhs;rw[ah,dif_neg ω]
 rw[show n.toNat / 10=(n / 10).toNat by omega,show 48+n.toNat % 10=(48+n % 10).toNat by omega]
def aej:ab (-9223372036854775808)=[45,57,50,50,51,51,55,50,48,51,54,56,53,52,55,55,53,56,48,56]:=by
 rw[BZ δ]
 repeat rw[Kq δ]
 rw[oJ δ δ];decide
def UC{n:Int}(h0 : -9223372036854775808<=n)(h1:n<=9223372036854775807):(ab n).length<=21:=by
 unfold ab;split
 ·rw[cy]
  have:=kJ 19 n.natAbs ω;omega
 ·have:=kJ 19 n.toNat ω
  omega
def I4{n:Int}(h0:0<=n)(h1:n<=255):bytesOf [aw c7 n]=[c1 n.toNat]:=by
 have:aw c7 n=n:=by simp[aw,b5,b6];omega
 rw[this];rfl
def pS{f:Int}(h0:0<=f)(h:(aP f).isNil=ψ):f > 0:=by
 have:¬f=0:=fun e=>by rw[aZ.2 e]at h;cases h
 omega
def eA{f:Int}(h:(aP f).isNil=φ):f<=0:=by
 have:=aZ.1 h;omega
def Kr{t:Ty}{l:List (D t)}{i j:Nat}(h:j<i):nth t (ai 0 (af i l)) j=nth t l j:=by
 rw[e8,Fb h]
def Ks{α:Type}{l:List α}{i:Nat}(h:i<=l.length):(ai 0 (af i l)).length=i:=by
 rw[e8,bc];omega
def gS(b:Bool):aA:=if b=φ then[119,101,97,107,32]else[]
def zK(s:aA):aA:=[110,101,101,100,32]++s++[10]
def wL(n:Int):aA:=[119,111,114,100,32]++ab n++[10]
def B0(y:D aT):aA:=gS y.2.2.1++[115,121,109,98,111,108,32]++y.1++[32]++ab y.2.1++[10]
def xq(t:D aV):aA:=
 if t.2.1=1 then[98,97,115,101,32]++ab t.1++[32]++ab t.2.2.1++[10]
 else if t.2.1=2 then gS t.2.2.2.2.1++[119,104,111,108,101,32]++ab t.1++[32]++ab t.2.2.1++[32]++t.2.2.2.1++[10]
 else gS t.2.2.2.2.1++[110,101,97,114,32]++ab t.1++[32]++ab t.2.2.1++[32]++t.2.2.2.1++[10]
def mv(o:D aB)(i:Nat):aA:=(o.1.take i).flatMap zK
def lR(o:D aB)(i:Nat):aA:=mv o o.1.length++(o.2.1.take i).flatMap wL
def jC(o:D aB)(i:Nat):aA:=lR o o.2.1.length++(o.2.2.1.take i).flatMap B0
def fK(o:D aB)(i:Nat):aA:=jC o o.2.2.1.length++(o.2.2.2.1.take i).flatMap xq
def fV(o:D aB):aA:=fK o o.2.2.2.1.length
def np(o:D aB):aA×aR:=if cQ o≠0 then([],aP (cQ o))else if(fV o).length > 1200 then([],.no 2)else(fV o,.nil)
def Kt{o:D aB}{i:Nat}(h:i<o.1.length):mv o (i+1)=mv o i++zK (nth .str o.1 i):=by
 unfold mv;rw[fJ (t:=.str) h];simp
def Ku{o:D aB}{i:Nat}(h:i<o.2.1.length):lR o (i+1)=lR o i++wL (nth (.int .i64) o.2.1 i):=by
 unfold lR;rw[fJ (t:=.int .i64) h];simp
def B1{o:D aB}{i:Nat}(h:i<o.2.2.1.length):jC o (i+1)=jC o i++B0 (nth aT o.2.2.1 i):=by
 unfold jC;rw[fJ (t:=aT) h];simp
def B2{o:D aB}{i:Nat}(h:i<o.2.2.2.1.length):fK o (i+1)=fK o i++xq (nth aV o.2.2.2.1 i):=by
 unfold fK;rw[fJ (t:=aV) h];simp
def Kv(o:D aB):lR o 0=mv o o.1.length:=by unfold lR;simp
def Ky(o:D aB):jC o 0=lR o o.2.1.length:=by unfold jC;simp
def Kz(o:D aB):fK o 0=jC o o.2.2.1.length:=by unfold fK;simp
def Nm(s:aA):Prop:=s≠[]/\s.length<=8/\∀c∈s,c≠10/\c≠32
def jv(a b x:Int):Prop:=a<=x/\x<=b
structure GP (t:D aV):Prop where
 a:jv 0 39 t.1
 w:jv (-2147483648) 2147483647 t.2.2.1
 k:t.2.1=1\/t.2.1=2\/t.2.1=3
 base:t.2.1=1->t.2.2.2.1=[]/\t.2.2.2.2.1=ψ
 nm:t.2.1≠1->Nm t.2.2.2.1
structure mh (o:D aB):Prop where
 n4:o.1.length<=4
 w1:1<=o.2.1.length
 Z2:o.2.1.length<=40
 s8:o.2.2.1.length<=8
 t6:o.2.2.2.1.length<=6
 Nx:∀s∈o.1,Nm s
 words:∀n∈o.2.1,jv (-2147483648) 2147483647 n
 syms:∀y∈o.2.2.1,Nm y.1/\jv 0 39 y.2.1
 WW:∀t∈o.2.2.2.1,GP t
def DW:∀(l p:List aA),kj p l=0->∀s∈l,aN s=0
 |[],_,_,s,h=>absurd h ς
 |x :: r,p,h,s,hs=>by
  have hx:=cO x;unfold kj at h;split at h
  ·omega
  ·split at h
   ·cases h
   ·rcases ag.1 hs with rfl|hs
    ·omega
    ·exact DW r _ h s hs
def DX:∀(l:List Int),lY l=0->∀n∈l,eW n=φ
 |[],_,s,h=>absurd h ς
 |x :: r,h,s,hs=>by
  unfold lY at h;split at h
  ·rename_i hx
   rcases ag.1 hs with rfl|hs
   ·exact hx
   ·exact DX r h s hs
  ·cases h
def GQ(n:Nat):∀(l p:List (D aT)),jO n p l=0->∀y∈l,aN y.1=0/\jv 0 (n-1) y.2.1
 |[],_,_,s,h=>absurd h ς
 |x :: r,p,h,s,hs=>by
  have hx:=cO x.1;unfold jO at h;split at h
  ·omega
  ·split at h
   ·cases h
   ·rename_i h2
    split at h
    ·cases h
    ·rcases ag.1 hs with rfl|hs
     ·exact⟨ω,ar.1 fun e=>h2 (.inl e),ga (dq.1 fun e=>h2 (.inr e))⟩
     ·exact GQ n r _ h s hs
def KA{n:Nat}{p:Option Int}{t:D aV}(h:km n p t=0) :
  jv 0 (n-1) t.1/\eW t.2.2.1=φ/\jv 1 3 t.2.1/\(t.2.1=1->t.2.2.2.1=[]/\t.2.2.2.2.1=ψ)/\(t.2.1≠1->aN t.2.2.2.1=0):=by
 unfold km at h;split at h
 ·cases h
 ·rename_i h1
  split at h
  ·cases h
  ·rename_i h2
   refine⟨⟨ar.1 fun e=>h1 (.inl e),ga (dq.1 fun e=>h1 (.inr (.inl e)))⟩,?_,⟨ar.1 fun e=>h2 (.inl e),ar.1 fun e=>h2 (.inr (.inl e))⟩,?_,?_⟩
   ·cases hw:eW t.2.2.1 with
    |true=>rfl
    |false=>exact absurd (.inr (.inr hw)) h1
   ·intro e
    rw[π e]at h;split at h
    ·cases h
    ·rename_i h3
     refine⟨aq fun e=>h3 (.inl e),?_⟩;cases hb:t.2.2.2.2.1 with
     |false=>rfl
     |true=>exact absurd (.inr hb) h3
   ·intro e
    rw[ε e]at h;exact h
def zL(n:Nat):∀(l:List (D aV)) (p:Option Int),mB n p l=0->∀t∈l,∃p,km n p t=0
 |[],_,_,s,h=>absurd h ς
 |x :: r,p,h,s,hs=>by
  unfold mB at h;split at h
  ·rename_i h0;exact absurd h h0
  ·rename_i h0
   rcases ag.1 hs with rfl|hs
   ·exact⟨p,aq h0⟩
   ·exact zL n r _ h s hs
def GR{s:aA}(h:aN s=0):Nm s:=by
 unfold aN at h;split at h
 ·cases h
 ·rename_i hl
  split at h
  ·cases h
  ·rename_i hb
   refine⟨by rintro rfl;simp at hl,ω,fun c hc =>?_⟩;obtain⟨i,hi,rfl⟩:=cw hc;have hn:kR i (bV s i)=ψ:=by
    unfold xY at hb;rw[gb,dd]at hb;have:=hb i (by simpa using hi);simpa using this
   have he:bV s i=s[i]:=by unfold bV;simp[hi]
   rw[he]at hn;constructor
   ·intro e;rw[e]at hn;unfold kR small other at hn;simp at hn
   ·intro e;rw[e]at hn;unfold kR small other at hn;simp at hn
def three{x:Int}(h:1<=x)(h':x<=3):x=1\/x=2\/x=3:=by omega
def iY{o:D aB}(h:cQ o=0):mh o:=by
 unfold cQ at h;split at h
 ·cases h
 ·rename_i hm
  split at h
  ·rename_i h1;exact absurd h h1
  ·rename_i h1
   split at h
   ·rename_i h2;exact absurd h h2
   ·rename_i h2
    split at h
    ·rename_i h3;exact absurd h h3
    ·rename_i h3
     have h1:=aq h1;have h2:=aq h2;have h3:=aq h3;unfold ib at hm;have hw:o.2.1.length<=40:=b8.1 fun e=>hm (.inr (.inr (.inl e)))
     refine⟨b8.1 fun e=>hm (.inl e),b8.1 fun e=>hm (.inr (.inl e)),hw,b8.1 fun e=>hm (.inr (.inr (.inr (.inl e)))),b8.1 fun e=>hm (.inr (.inr (.inr (.inr e)))),
      fun s hs=>GR (DW _ _ h1 s hs),fun n hn =>?_,fun y hy =>?_,fun t ht =>?_⟩
     ·have:=DX _ h2 n hn
      unfold eW at this;simp only[av,decide_eq_true_eq]at this;exact this
     ·obtain⟨a,b,c⟩:=GQ _ _ _ h3 y hy
      exact⟨GR a,b,b9 c ω⟩
     ·obtain⟨p,hp⟩:=zL _ _ _ h t ht
      obtain⟨⟨a,b⟩,c,⟨d,e⟩,f,g⟩:=KA hp;unfold eW at c;simp only[av,decide_eq_true_eq]at c;exact⟨⟨a,b9 b ω⟩,c,three d e,f,fun e=>GR (g e)⟩
def eC{a b n:Int}(h:jv a b n)(ha : -999999999999999999<=a)(hb:b<=999999999999999999):(ab n).length<=19:=by
 obtain⟨h0,h1⟩:=h;unfold ab;split
 ·rw[cy]
  have:=kJ 17 n.natAbs ω;omega
 ·have:=kJ 17 n.toNat ω
  omega
def wM(b:Bool):(gS b).length<=5:=by cases b <;> decide
def Z3{s:aA}(h:Nm s):(zK s).length<=64:=by have:=h.2.1;simp[zK];omega
def Z4{n:Int}(h:jv (-2147483648) 2147483647 n):(wL n).length<=64:=by have:=eC h δ δ;simp[wL];omega
def aek{y:D aT}(h:Nm y.1/\jv 0 39 y.2.1):(B0 y).length<=64:=by
 have h1:=eC h.2 δ δ;have h2:=wM y.2.2.1;have h3:=h.1.2.1;simp[B0];omega
def ael{t:D aV}(h:GP t):(xq t).length<=64:=by
 have h1:=eC h.a δ δ;have h4:=eC h.w δ δ;have h2:=wM t.2.2.2.2.1;unfold xq;split
 ·simp;omega
 ·rename_i hk
  have h3:=(h.nm hk).2.1;split
  ·simp;omega
  ·simp;omega
def rj{α:Type}{f:α->aA}:∀{l:List α},(∀x∈l,(f x).length<=64)->(l.flatMap f).length<=64*l.length
 |[],_=>by simp
 |x :: r,h=>by
  have h1:=h x ς;have h2:=rj (f:=f) (l:=r) fun y hy=>h y (cn _ hy)
  rw[cc,a7,cy];omega
def mh.O1{o:D aB}(h:mh o)(i:Nat):(mv o i).length<=1000:=by
 have:=rj (f:=zK) (l:=o.1.take i) fun s hs=>Z3 (h.Nx s (cq hs))
 have h2:=h.n4;unfold mv;simp only[bc]at this;omega
def mh.B3{o:D aB}(h:mh o)(i:Nat):(lR o i).length<=4000:=by
 have h0:=h.O1 o.1.length;have:=rj (f:=wL) (l:=o.2.1.take i) fun s hs=>Z4 (h.words s (cq hs))
 have h2:=h.Z2;unfold lR;rw[a7];simp only[bc]at this;omega
def mh.ai4{o:D aB}(h:mh o)(i:Nat):(jC o i).length<=5000:=by
 have h0:=h.B3 o.2.1.length;have:=rj (f:=B0) (l:=o.2.2.1.take i) fun s hs=>aek (h.syms s (cq hs))
 have h2:=h.s8;unfold jC;rw[a7];simp only[bc]at this;omega
def mh.ako{o:D aB}(h:mh o)(i:Nat):(fK o i).length<=6000:=by
 have h0:=h.ai4 o.2.2.1.length;have:=rj (f:=xq) (l:=o.2.2.2.1.take i) fun s hs=>ael (h.WW s (cq hs))
 have h2:=h.t6;unfold fK;rw[a7];simp only[bc]at this;omega
def mh.vO{o:D aB}(h:mh o){i:Nat}(hi:i<o.1.length):Nm (nth .str o.1 i):=h.Nx _ (eG (t:=.str) hi)
def mh.word{o:D aB}(h:mh o){i:Nat}(hi:i<o.2.1.length):jv (-2147483648) 2147483647 (nth (.int .i64) o.2.1 i):=h.words _ (eG (t:=.int .i64) hi)
def mh.sym{o:D aB}(h:mh o){i:Nat}(hi:i<o.2.2.1.length):Nm (nth aT o.2.2.1 i).1/\jv 0 39 (nth aT o.2.2.1 i).2.1:=h.syms _ (eG (t:=aT) hi)
def mh.tie{o:D aB}(h:mh o){i:Nat}(hi:i<o.2.2.2.1.length):GP (nth aV o.2.2.2.1 i):=h.WW _ (eG (t:=aV) hi)
def SC(a b:aA):bW a++bW b=bW (a++b):=by simp[bW]
def DY(a:aA):(bW a).length=a.length:=by simp[bW]
def B4{o:D aB}(h:mh o){i:Nat}(hi:i<o.1.length):(nth .str o.1 i).length<=8/\(mv o i).length<=1000:=⟨(h.vO hi).2.1,h.O1 i⟩
def B5{o:D aB}(h:mh o){i:Nat}(hi:i<o.2.1.length):(ab (nth (.int .i64) o.2.1 i)).length<=19/\(lR o i).length<=4000:=
 ⟨eC (h.word hi) δ δ,h.B3 i⟩
def Fg{o:D aB}(h:mh o){i:Nat}(hi:i<o.2.2.1.length) :
  (nth aT o.2.2.1 i).1.length<=8/\(ab (nth aT o.2.2.1 i).2.1).length<=19/\(gS (nth aT o.2.2.1 i).2.2.1).length<=5/\(jC o i).length<=5000:=
 ⟨(h.sym hi).1.2.1,eC (h.sym hi).2 δ δ,wM _,h.ai4 i⟩
def Fh{o:D aB}(h:mh o){i:Nat}(hi:i<o.2.2.2.1.length) :
  (nth aV o.2.2.2.1 i).2.2.2.1.length<=8/\(ab (nth aV o.2.2.2.1 i).1).length<=19/\(ab (nth aV o.2.2.2.1 i).2.2.1).length<=19/\(gS (nth aV o.2.2.2.1 i).2.2.2.2.1).length<=5/\(fK o i).length<=6000:=by
 have ht:=h.tie hi;refine⟨?_,eC ht.a δ δ,eC ht.w δ δ,wM _,h.ako i⟩;by_cases hk:(nth aV o.2.2.2.1 i).2.1=1
 ·rw[(ht.base hk).1];decide
 ·exact(ht.nm hk).2.1
def rk{p p' q:aA}{a b:Int}(h:p'=p++q):(((bW p++bW q,a,b,()):D mI))=((bW p',a,b,()):D mI):=by rw[h,SC]
def Fi{p p':aA}{a b:Int}(h:p=p'):((bW p,a,b,()):D mI)=((bW p',a,b,()):D mI):=by rw[h]
def GS{o:D aB}{i:Nat}(h:i<o.2.2.2.1.length)(hk:(nth aV o.2.2.2.1 i).2.1=1) :
  fK o (i+1)=fK o i++([98,97,115,101,32]++ab (nth aV o.2.2.2.1 i).1++[32]++ab (nth aV o.2.2.2.1 i).2.2.1++[10]):=by
 rw[B2 h];unfold xq;rw[π hk]
def zM{o:D aB}{i:Nat}(h:i<o.2.2.2.1.length)(hk:¬(nth aV o.2.2.2.1 i).2.1=1)(hk2:(nth aV o.2.2.2.1 i).2.1=2) :
  fK o (i+1)=fK o i++(gS (nth aV o.2.2.2.1 i).2.2.2.2.1++[119,104,111,108,101,32]++ab (nth aV o.2.2.2.1 i).1++[32]++ab (nth aV o.2.2.2.1 i).2.2.1++[32]++(nth aV o.2.2.2.1 i).2.2.2.1++[10]):=by
 rw[B2 h];unfold xq;rw[ε hk,π hk2]
def zN{o:D aB}{i:Nat}(h:i<o.2.2.2.1.length)(hk:¬(nth aV o.2.2.2.1 i).2.1=1)(hk2:¬(nth aV o.2.2.2.1 i).2.1=2) :
  fK o (i+1)=fK o i++(gS (nth aV o.2.2.2.1 i).2.2.2.2.1++[110,101,97,114,32]++ab (nth aV o.2.2.2.1 i).1++[32]++ab (nth aV o.2.2.2.1 i).2.2.1++[32]++(nth aV o.2.2.2.1 i).2.2.2.1++[10]):=by
 rw[B2 h];unfold xq;rw[ε hk,ε hk2]
def KB{o:D aB}(h:cQ o≠0):np o=([],aP (cQ o)):=by unfold np;rw[π h]
def GU{o:D aB}(h:cQ o=0){i:Nat}(hi:i=o.2.2.2.1.length)(hl:(fK o i).length > 1200):np o=([],.no 2):=by
 unfold np;rw[ε (by rw[h];decide),π (by unfold fV;rw[<-hi];exact hl)]
def zO{o:D aB}(h:cQ o=0){i:Nat}(hi:i=o.2.2.2.1.length)(hl:(fK o i).length<=1200):np o=(fK o i,.nil):=by
 unfold np;rw[ε (by rw[h];decide),ε (by unfold fV;rw[<-hi];omega)];unfold fV;rw[<-hi]
def nO(o:D aB):aA×Int:=if(fV o).length > 1200 then([],2)else(fV o,0)
def GV{o:D aB}{i:Nat}(hi:i=o.2.2.2.1.length)(hl:(fK o i).length > 1200):nO o=([],2):=by
 unfold nO;rw[π (by unfold fV;rw[<-hi];exact hl)]
def zP{o:D aB}{i:Nat}(hi:i=o.2.2.2.1.length)(hl:(fK o i).length<=1200):nO o=(fK o i,0):=by
 unfold nO;rw[ε (by unfold fV;rw[<-hi];omega)];unfold fV;rw[<-hi]
@[reducible] def O3:List aA:=[[],[98,97,115,101],[119,104,111,108,101],[110,101,97,114]]
def aem:∀i:Nat,(nth .str [[],[98,97,115,101],[119,104,111,108,101],[110,101,97,114]] i).length<=5
 |0=>by decide
 |1=>by decide
 |2=>by decide
 |3=>by decide
 |n+4=>by show([]:aA).length<=5;decide
def mh.kind{o:D aB}(h:mh o){i:Nat}(hi:i<o.2.2.2.1.length):jv 1 3 (nth aV o.2.2.2.1 i).2.1:=by
 rcases(h.tie hi).k with e|e|e <;> rw[e] <;> exact⟨δ,δ⟩
def ai5{o:D aB}{i:Nat}(hi:i<o.2.2.2.1.length)(h:mh o)(hw:(nth aV o.2.2.2.1 i).2.2.2.2.1=φ)(hk:(nth aV o.2.2.2.1 i).2.1≠1) :
  fK o i++[119,101,97,107,32]++nth .str O3 (az (nth aV o.2.2.2.1 i).2.1)++[32]++ab (nth aV o.2.2.2.1 i).1++[32]++ab (nth aV o.2.2.2.1 i).2.2.1++[32]++(nth aV o.2.2.2.1 i).2.2.2.1++[10]=fK o (i+1):=by
 rcases(h.tie hi).k with e|e|e
 ·exact absurd e hk
 ·rw[zM hi hk e,hw,e];simp[gS,nth]
 ·rw[zN hi hk (by rw[e];decide),hw,e];simp[gS,nth]
def ai6{o:D aB}{i:Nat}(hi:i<o.2.2.2.1.length)(h:mh o)(hw:(nth aV o.2.2.2.1 i).2.2.2.2.1=ψ)(hk:(nth aV o.2.2.2.1 i).2.1≠1) :
  fK o i++nth .str O3 (az (nth aV o.2.2.2.1 i).2.1)++[32]++ab (nth aV o.2.2.2.1 i).1++[32]++ab (nth aV o.2.2.2.1 i).2.2.1++[32]++(nth aV o.2.2.2.1 i).2.2.2.1++[10]=fK o (i+1):=by
 rcases(h.tie hi).k with e|e|e
 ·exact absurd e hk
 ·rw[zM hi hk e,hw,e];simp[gS,nth]
 ·rw[zN hi hk (by rw[e];decide),hw,e];simp[gS,nth]
def ai7{o:D aB}{i:Nat}(hi:i<o.2.2.2.1.length)(hk:(nth aV o.2.2.2.1 i).2.1=1) :
  fK o i++nth .str O3 (az (nth aV o.2.2.2.1 i).2.1)++[32]++ab (nth aV o.2.2.2.1 i).1++[32]++ab (nth aV o.2.2.2.1 i).2.2.1++[10]=fK o (i+1):=by
 rw[GS hi hk,hk];simp[nth]
def ai8{o:D aB}{i:Nat}(hi:i<o.2.2.1.length)(hw:(nth aT o.2.2.1 i).2.2.1=φ) :
  jC o i++[119,101,97,107,32]++[115,121,109,98,111,108,32]++(nth aT o.2.2.1 i).1++[32]++ab (nth aT o.2.2.1 i).2.1++[10]=jC o (i+1):=by
 rw[B1 hi];unfold B0;rw[hw];simp[gS]
def ai9{o:D aB}{i:Nat}(hi:i<o.2.2.1.length)(hw:(nth aT o.2.2.1 i).2.2.1=ψ) :
  jC o i++[115,121,109,98,111,108,32]++(nth aT o.2.2.1 i).1++[32]++ab (nth aT o.2.2.1 i).2.1++[10]=jC o (i+1):=by
 rw[B1 hi];unfold B0;rw[hw];simp[gS]
def ajV{o:D aB}{i:Nat}(hi:i<o.1.length):mv o i++[110,101,101,100,32]++nth .str o.1 i++[10]=mv o (i+1):=by
 rw[Kt hi];unfold zK;simp
def ajW{o:D aB}{i:Nat}(hi:i<o.2.1.length):lR o i++[119,111,114,100,32]++ab (nth (.int .i64) o.2.1 i)++[10]=lR o (i+1):=by
 rw[Ku hi];unfold wL;simp
def UD{x:Int}(h:x > 1):x≠1:=by omega
def Z5{x:Int}(h:¬x > 1)(h':jv 1 3 x):x=1:=by obtain⟨a,b⟩:=h';omega
@[reducible] def qq:aA:=[119,101,97,107]
@[reducible] def eY:aA:=[119,101,97,107,32]
@[reducible] def iK:aA:=[110,101,101,100]
@[reducible] def iv:aA:=[119,111,114,100]
@[reducible] def gw:aA:=[115,121,109,98,111,108]
@[reducible] def kU:aA:=[98,97,115,101]
@[reducible] def iZ:aA:=[119,104,111,108,101]
@[reducible] def jP:aA:=[110,101,97,114]
def n8(o:D aB)(s:aA):D aB:=(o.1++[s],o.2)
def n9(o:D aB)(n:Int):D aB:=(o.1,o.2.1++[n],o.2.2)
def sb(o:D aB)(y:D aT):D aB:=(o.1,o.2.1,o.2.2.1++[y],o.2.2.2)
def lZ(o:D aB)(t:D aV):D aB:=(o.1,o.2.1,o.2.2.1,o.2.2.2.1++[t],())
def Fj(x y:aA)(k:Int->Int->D aB):Option (D aB):=
 match dO x,dO y with
 |some m,ξ n=>ξ (k m n)
 |_,_=>χ
def pT(o:D aB)(b:Bool):List aA->Option (D aB)
 |[a,x]=>if a=iK then ξ (n8 o x)else if a=iv then(dO x).map (n9 o)else χ
 |[a,x,y]=>if a=gw then(dO y).map fun n=>sb o (x,n,b,())else if a=kU then Fj x y fun m n=>lZ o (m,1,n,[],ψ,())else χ
 |[a,x,y,z]=>if a=iZ\/a=jP then Fj x y fun m n=>lZ o (m,if a=jP then 3 else 2,n,z,b,())else χ
 |_=>χ
def sd(o:D aB)(s:aA):Option (D aB):=pT o (ay s eY) (parts 32 (a8 s eY))
def pk(x:aA):Int:=(mK x).getD (-1099511627776)
def jH(o:D aB)(b:Bool):List aA->Option (D aB)
 |[a,x]=>if a=iK then ξ (n8 o x)else if a=iv then ξ (n9 o (pk x))else χ
 |[a,x,y]=>if a=gw then ξ (sb o (x,pk y,b,()))else if a=kU then ξ (lZ o (pk x,1,pk y,[],b,()))else χ
 |[a,x,y,z]=>if a=iZ then ξ (lZ o (pk x,2,pk y,z,b,()))else if a=jP then ξ (lZ o (pk x,3,pk y,z,b,()))else χ
 |_=>χ
def C6(l:List aA):Bool:=ρ (l.headD []=qq)
def GW(l:List aA):List aA:=if C6 l=φ then l.drop 1 else l
def mC(o:D aB)(s:aA):Option (D aB):=jH o (C6 (parts 32 s)) (GW (parts 32 s))
def run(f:D aB->aA->Option (D aB)):D aB->List aA->Option (D aB)
 |o,[]=>ξ o
 |o,s :: r=>match f o s with
  |some p=>run f p r
  |none=>χ
def Fk{f:D aB->aA->Option (D aB)}:∀{l:List aA} {o:D aB} {s:aA},run f o (l++[s])=(run f o l).bind fun p=>f p s
 |[],o,s=>by simp only[fw,run,e9];cases f o s <;> rfl
 |x :: r,o,s=>by
  simp only[dn,run];cases f o x with
  |none=>rfl
  |some p=>exact Fk
def yc{f:D aB->aA->Option (D aB)}:∀{l m:List aA} {o p:D aB},run f o l=ξ p->run f o (l++m)=run f p m
 |[],m,o,p,h=>by simp only[run,dr]at h;rw[h];rfl
 |x :: r,m,o,p,h=>by
  simp only[run]at h;simp only[dn,run];cases hx:f o x with
  |none=>rw[hx]at h;cases h
  |some q=>rw[hx]at h;exact yc h
def px(s:aA):aA:=[110,101,101,100,32]++s
def py(n:Int):aA:=[119,111,114,100,32]++ab n
def Fl(y:D aT):aA:=gS y.2.2.1++([115,121,109,98,111,108,32]++(y.1++32 :: ab y.2.1))
def zQ(t:D aV):aA:=
 if t.2.1=1 then[98,97,115,101,32]++(ab t.1++32 :: ab t.2.2.1)
 else if t.2.1=2 then gS t.2.2.2.2.1++([119,104,111,108,101,32]++(ab t.1++32 :: (ab t.2.2.1++32 :: t.2.2.2.1)))
 else gS t.2.2.2.2.1++([110,101,97,114,32]++(ab t.1++32 :: (ab t.2.2.1++32 :: t.2.2.2.1)))
def se(o:D aB):List aA:=o.1.map px++(o.2.1.map py++(o.2.2.1.map Fl++o.2.2.2.1.map zQ))
def vP{α:Type}{f g:α->aA}(h:∀x,f x=g x++[10]):∀l:List α,l.flatMap f=n7 10 (l.map g)
 |[]=>rfl
 |x :: r=>by rw[cc,vP h r,aj,BY,h];simp
def Fm(c:UInt8)(l m:List aA):n7 c (l++m)=n7 c l++n7 c m:=by simp[n7]
def DZ(o:D aB):fV o=n7 10 (se o):=by
 unfold fV fK jC lR mv se;rw[ck,ck,ck,ck,Fm,Fm,Fm,
  vP (g:=px) (fun s=>by simp[zK,px]) o.1,vP (g:=py) (fun s=>by simp[wL,py]) o.2.1,
  vP (g:=Fl) (fun s=>by simp[B0,Fl]) o.2.2.1,
  vP (g:=zQ) (fun s=>by unfold xq zQ;split <;> (try split) <;> simp) o.2.2.2.1]
 simp
structure Reads (f:D aB->aA->Option (D aB)):Prop where
 vO:∀(o:D aB) (s:aA),Nm s->f o (px s)=ξ (n8 o s)
 word:∀(o:D aB) (n:Int),jv (-2147483648) 2147483647 n->f o (py n)=ξ (n9 o n)
 sym:∀(o:D aB) (y:D aT),Nm y.1->jv 0 39 y.2.1->f o (Fl y)=ξ (sb o y)
 tie:∀(o:D aB) (t:D aV),GP t->f o (zQ t)=ξ (lZ o t)
section
variable{f:D aB->aA->Option (D aB)}(h:Reads f)
include h
def KC:∀(l:List aA) (o:D aB),(∀s∈l,Nm s)->run f o (l.map px)=ξ (o.1++l,o.2)
 |[],o,_=>by simp[run]
 |s :: r,o,hl=>by
  rw[aj,run,h.vO o s (hl s ς)];show run f (n8 o s) (r.map px)=_;rw[KC r _ fun x hx=>hl x (cn _ hx)];simp[n8]
def KD:∀(l:List Int) (o:D aB),(∀n∈l,jv (-2147483648) 2147483647 n)->run f o (l.map py)=ξ (o.1,o.2.1++l,o.2.2)
 |[],o,_=>by simp[run]
 |s :: r,o,hl=>by
  rw[aj,run,h.word o s (hl s ς)];show run f (n9 o s) (r.map py)=_;rw[KD r _ fun x hx=>hl x (cn _ hx)];simp[n9]
def O4:∀(l:List (D aT)) (o:D aB),(∀y∈l,Nm y.1/\jv 0 39 y.2.1)->run f o (l.map Fl)=ξ (o.1,o.2.1,o.2.2.1++l,o.2.2.2)
 |[],o,_=>by simp[run]
 |s :: r,o,hl=>by
  rw[aj,run,h.sym o s (hl s ς).1 (hl s ς).2];show run f (sb o s) (r.map Fl)=_;rw[O4 r _ fun x hx=>hl x (cn _ hx)];simp[sb]
def O5:∀(l:List (D aV)) (o:D aB),(∀t∈l,GP t)->run f o (l.map zQ)=ξ (o.1,o.2.1,o.2.2.1,o.2.2.2.1++l,())
 |[],o,_=>by simp[run]
 |s :: r,o,hl=>by
  rw[aj,run,h.tie o s (hl s ς)];show run f (lZ o s) (r.map zQ)=_;rw[O5 r _ fun x hx=>hl x (cn _ hx)];simp[lZ]
def KE{o:D aB}(ok:mh o):run f (cD aB) (se o)=ξ o:=by
 unfold se;rw[yc (KC h o.1 _ ok.Nx),yc (KD h o.2.1 _ ok.words),yc (O4 h o.2.2.1 _ ok.syms),O5 h o.2.2.2.1 _ ok.WW];rfl
end
def GX{a:UInt8}{s:aA}(h:a≠119):ay (a :: s) eY=ψ:=by
 unfold ay eY;simp[dk];intro e;exact absurd e.symm h
def ahm{s:aA}(h:ay s eY=ψ):a8 s eY=s:=by unfold a8;rw[ε (by rw[h];decide)]
def UE(s:aA):ay (eY++s) eY=φ:=by unfold ay eY;simp[dk]
def aen(s:aA):a8 (eY++s) eY=s:=by unfold a8;rw[π (UE s)];rfl
def UF{a b:UInt8}{s:aA}(h:b≠101):ay (a :: b :: s) eY=ψ:=by
 unfold ay eY;simp[dk];intro _ e;exact absurd e.symm h
def qt(o:D aB)(b:Bool)(s:aA)(h:ay s eY=ψ):sd o (gS b++s)=pT o b (parts 32 s):=by
 unfold sd;cases b with
 |false=>show pT o (ay s eY) (parts 32 (a8 s eY))=_;rw[h,ahm h]
 |true=>show pT o (ay (eY++s) eY) (parts 32 (a8 (eY++s) eY))=_;rw[UE,aen]
def qu(o:D aB)(b:Bool)(s:aA)(h:C6 (parts 32 s)=ψ):mC o (gS b++s)=jH o b (parts 32 s):=by
 unfold mC;cases b with
 |false=>show jH o (C6 (parts 32 s)) (GW (parts 32 s))=_;unfold GW;rw[h,ε δ]
 |true=>
  have e:parts 32 (gS φ++s)=qq :: parts 32 s:=iA (x:=qq) δ;rw[e];rfl
def qv{s:aA}(h:Nm s):(32:UInt8)∉s/\(10:UInt8)∉s:=⟨fun hc=>(h.2.2 _ hc).2 rfl,fun hc=>(h.2.2 _ hc).1 rfl⟩
def lS(n:Int):(32:UInt8)∉ab n:=Kp δ
def pU(n:Int):(10:UInt8)∉ab n:=Kp δ
def zR{s:aA}(h:Nm s):parts 32 (px s)=[iK,s]:=by
 show parts 32 (iK++32 :: s)=_;rw[iA δ,nk (qv h).1]
def zS(n:Int):parts 32 (py n)=[iv,ab n]:=by
 show parts 32 (iv++32 :: ab n)=_;rw[iA δ,nk (lS n)]
def B6{s:aA}{n:Int}(h:Nm s):parts 32 ([115,121,109,98,111,108,32]++(s++32 :: ab n))=[gw,s,ab n]:=by
 show parts 32 (gw++32 :: (s++32 :: ab n))=_;rw[iA δ,iA (qv h).1,nk (lS n)]
def zT(m n:Int):parts 32 ([98,97,115,101,32]++(ab m++32 :: ab n))=[kU,ab m,ab n]:=by
 show parts 32 (kU++32 :: (ab m++32 :: ab n))=_;rw[iA δ,iA (lS m),nk (lS n)]
def xr{s:aA}(m n:Int)(h:Nm s):parts 32 ([119,104,111,108,101,32]++(ab m++32 :: (ab n++32 :: s)))=[iZ,ab m,ab n,s]:=by
 show parts 32 (iZ++32 :: (ab m++32 :: (ab n++32 :: s)))=_;rw[iA δ,iA (lS m),iA (lS n),nk (qv h).1]
def zU{s:aA}(m n:Int)(h:Nm s):parts 32 ([110,101,97,114,32]++(ab m++32 :: (ab n++32 :: s)))=[jP,ab m,ab n,s]:=by
 show parts 32 (jP++32 :: (ab m++32 :: (ab n++32 :: s)))=_;rw[iA δ,iA (lS m),iA (lS n),nk (qv h).1]
def u5{a b n:Int}(h:jv a b n)(ha : -9223372036854775808<=a)(hb:b<=9223372036854775807):dO (ab n)=ξ n:=Z1 (b9 ha h.1) (b9 h.2 hb)
def C7{a b n:Int}(h:jv a b n)(ha : -999999999999999999<=a)(hb:b<=999999999999999999):pk (ab n)=n:=by
 unfold pk;rw[Ko (b9 ha h.1) (b9 h.2 hb)];rfl
def aja:Reads sd where
 vO o s h:=by
  have:=qt o ψ (px s) (GX δ);rw[show gS ψ++px s=px s from rfl,zR h]at this;exact this
 word o n h:=by
  have:=qt o ψ (py n) (UF δ);rw[show gS ψ++py n=py n from rfl,zS]at this;rw[this];show(if iv=iK then ξ (n8 o (ab n))else if iv=iv then(dO (ab n)).map (n9 o)else χ)=_;rw[ε δ,π rfl,u5 h δ δ];rfl
 sym o y h h':=by
  have:=qt o y.2.2.1 ([115,121,109,98,111,108,32]++(y.1++32 :: ab y.2.1)) (GX δ);rw[B6 h]at this;refine Eq.trans this ?_;dsimp only[pT];rw[π rfl,u5 h' δ δ];rfl
 tie o t h:=by
  obtain⟨at',k,ad,nm,b,_⟩:=t;have ha:=u5 h.a δ δ;have hw:=u5 h.w δ δ;simp only at ha hw;unfold zQ;rcases h.k with e|e|e
  ·have hb:=h.base e
   simp only at e hb;obtain⟨rfl,rfl⟩:=hb;subst e;rw[π rfl];have:=qt o ψ ([98,97,115,101,32]++(ab at'++32 :: ab ad)) (GX δ);rw[zT]at this;refine this.trans ?_;dsimp only[pT];rw[ε δ,π rfl];unfold Fj;rw[ha,hw]
  ·have hn:=h.nm (by rw[show _=_ from e];decide)
   simp only at e hn;subst e;rw[ε ς,π rfl];have:=qt o b ([119,104,111,108,101,32]++(ab at'++32 :: (ab ad++32 :: nm))) (UF δ);rw[xr _ _ hn]at this;refine this.trans ?_;dsimp only[pT];rw[π (.inl rfl),ε δ];unfold Fj;rw[ha,hw]
  ·have hn:=h.nm (by rw[show _=_ from e];decide)
   simp only at e hn;subst e;rw[ε ς,ε ς];have:=qt o b ([110,101,97,114,32]++(ab at'++32 :: (ab ad++32 :: nm))) (GX δ);rw[zU _ _ hn]at this;refine this.trans ?_;dsimp only[pT];rw[π (.inr rfl),π rfl];unfold Fj;rw[ha,hw]
def ajb:Reads mC where
 vO o s h:=by
  have:=qu o ψ (px s) (by rw[zR h];rfl);rw[show gS ψ++px s=px s from rfl,zR h]at this;exact this
 word o n h:=by
  have:=qu o ψ (py n) (by rw[zS];rfl);rw[show gS ψ++py n=py n from rfl,zS]at this;rw[this];show(if iv=iK then ξ (n8 o (ab n))else if iv=iv then ξ (n9 o (pk (ab n)))else χ)=_;rw[ε δ,π rfl,C7 h δ δ]
 sym o y h h':=by
  have:=qu o y.2.2.1 ([115,121,109,98,111,108,32]++(y.1++32 :: ab y.2.1)) (by rw[B6 h];rfl);rw[B6 h]at this;refine Eq.trans this ?_;dsimp only[jH];rw[π rfl,C7 h' δ δ]
 tie o t h:=by
  obtain⟨at',k,ad,nm,b,_⟩:=t;have ha:=C7 h.a δ δ;have hw:=C7 h.w δ δ;simp only at ha hw;unfold zQ;rcases h.k with e|e|e
  ·have hb:=h.base e
   simp only at e hb;obtain⟨rfl,rfl⟩:=hb;subst e;rw[π rfl];have:=qu o ψ ([98,97,115,101,32]++(ab at'++32 :: ab ad)) (by rw[zT];rfl);rw[zT]at this;refine this.trans ?_;dsimp only[jH];rw[ε δ,π rfl,ha,hw]
  ·have hn:=h.nm (by rw[show _=_ from e];decide)
   simp only at e hn;subst e;rw[ε ς,π rfl];have:=qu o b ([119,104,111,108,101,32]++(ab at'++32 :: (ab ad++32 :: nm))) (by rw[xr _ _ hn];rfl);rw[xr _ _ hn]at this;refine this.trans ?_;dsimp only[jH];rw[π rfl,ha,hw]
  ·have hn:=h.nm (by rw[show _=_ from e];decide)
   simp only at e hn;subst e;rw[ε ς,ε ς];have:=qu o b ([110,101,97,114,32]++(ab at'++32 :: (ab ad++32 :: nm))) (by rw[zU _ _ hn];rfl);rw[zU _ _ hn]at this;refine this.trans ?_;dsimp only[jH];rw[ε δ,π rfl,ha,hw]
def GY{o:D aB}(h:mh o):∀l∈se o,(10:UInt8)∉l:=by
 intro l hl;unfold se at hl;simp only[ba,bj]at hl;have hw:∀b,(10:UInt8)∉gS b:=by intro b;cases b <;> decide
 rcases hl with⟨s,hs,rfl⟩|⟨n,hn,rfl⟩|⟨y,hy,rfl⟩|⟨t,ht,rfl⟩
 ·have:=(qv (h.Nx s hs)).2
  unfold px;simp[this]
 ·have:=pU n
  unfold py;simp[this]
 ·have h1:=(qv (h.syms y hy).1).2
  have h2:=pU y.2.1;have h3:=hw y.2.2.1;unfold Fl;simp[h1,h2,h3]
 ·have h1:=pU t.1
  have h2:=pU t.2.2.1;have h3:=hw t.2.2.2.2.1;unfold zQ;split
  ·simp[h1,h2]
  ·rename_i hk
   have h4:=(qv ((h.WW t ht).nm hk)).2;split <;> simp[h1,h2,h3,h4]
def aeo{o:D aB}(h:mh o):se o≠[]:=by
 have h1:=h.w1;unfold se;intro e;simp only[List.append_eq_nil_iff,List.map_eq_nil_iff]at e;rw[e.2.1]at h1;simp at h1
def WX(s:aA):Option (D aB):=run sd (cD aB) (parts 10 (ae s [10]))
def wN{o:D aB}(h:cQ o=0):WX (fV o)=ξ o:=by
 have ok:=iY h;unfold WX;rw[DZ,WV (aeo ok) (GY ok),KE aja ok]
def Z6{o p:D aB}(h:cQ o=0)(h':cQ p=0)(e:fV o=fV p):o=p:=by
 have a:=wN h;rw[e,wN h']at a;exact(dh a).symm
open Classical in
def bY(s:aA):D aB×Int:=
 if s.length > 1200 then(cD aB,2)
 else if h:∃o:D aB,cQ o=0/\fV o=s then(cu h,0)else(cD aB,4)
def B7{s:aA}(h:s.length > 1200):bY s=(cD aB,2):=by unfold bY;rw[π h]
def C8{s:aA}{o:D aB}(h:¬s.length > 1200)(hf:cQ o=0)(ht:fV o=s):bY s=(o,0):=by
 have hx:∃o:D aB,cQ o=0/\fV o=s:=⟨o,hf,ht⟩
 have hc:=dw hx;unfold bY;rw[ε h,dif_pos hx,Z6 hc.1 hf (hc.2.trans ht.symm)]
def sW{s:aA}(h:¬s.length > 1200)(hn:∀o:D aB,cQ o=0->fV o≠s):bY s=(cD aB,4):=by
 unfold bY;rw[ε h,dif_neg fun⟨o,h1,h2⟩=>hn o h1 h2]
def WY{s:aA}(h:¬s.length > 1200)(hr:WX s=χ):bY s=(cD aB,4):=
 sW h fun o h1 h2=>by rw[<-h2,wN h1]at hr;cases hr
def GZ{s:aA}{o:D aB}(h:¬s.length > 1200)(hr:WX s=ξ o)(hb:cQ o=0->fV o≠s):bY s=(cD aB,4):=
 sW h fun p h1 h2=>by
  have:p=o:=by rw[<-h2,wN h1]at hr;exact dh hr
  rw[this]at h1 h2;exact hb h1 h2
def xu(s:aA):List aA×Bool:=((parts 10 s).dropLast,ρ ((parts 10 s).getLastD []=[]))
def UG{s x:aA}{L:List aA}(h:∀y∈L,(10:UInt8)∉y)(hx:(10:UInt8)∉x)(e:n7 10 L++x=s):xu s=(L,ρ (x=[])):=by
 unfold xu;rw[<-e,zJ h hx];simp
def WZ(s:aA):Option (D aB):=run mC (cD aB) (xu s).1
def KF{o:D aB}(h:cQ o=0):xu (fV o)=(se o,φ):=by
 have ok:=iY h;rw[UG (x:=[]) (GY ok) ς (by rw[DZ];simp)];rfl
def KG{o:D aB}(h:cQ o=0):WZ (fV o)=ξ o:=by
 unfold WZ;rw[KF h,KE ajb (iY h)]
def Z7{s:aA}(h:¬s.length > 1200)(hr:(xu s).2=ψ):bY s=(cD aB,4):=
 sW h fun o h1 h2=>by rw[<-h2,KF h1]at hr;cases hr
def W0{s:aA}(h:¬s.length > 1200)(hr:WZ s=χ):bY s=(cD aB,4):=
 sW h fun o h1 h2=>by rw[<-h2,KG h1]at hr;cases hr
def W4{s:aA}{o:D aB}(h:¬s.length > 1200)(hr:WZ s=ξ o)(hb:cQ o=0->fV o≠s):bY s=(cD aB,4):=
 sW h fun p h1 h2=>by
  have:p=o:=by rw[<-h2,KG h1]at hr;exact dh hr
  rw[this]at h1 h2;exact hb h1 h2
def iU(o:D aB)(b:Bool)(s:aA):D aB×Bool:=
 let w:=parts 32 (a8 s eY)
 if nth .str w 0=iK/\w.length=2 then(n8 o (nth .str w 1),b)
 else if nth .str w 0=iv/\w.length=2 then(n9 o (dG (nth .str w 1)).1,b || (dO (nth .str w 1)).isNone)
 else if nth .str w 0=gw/\w.length=3 then(sb o (nth .str w 1,(dG (nth .str w 2)).1,ay s eY,()),b || (dO (nth .str w 2)).isNone)
 else if nth .str w 0=kU/\w.length=3 then(lZ o ((dG (nth .str w 1)).1,1,(dG (nth .str w 2)).1,[],ψ,()),(b || (dO (nth .str w 1)).isNone) || (dO (nth .str w 2)).isNone)
 else if(nth .str w 0=iZ\/nth .str w 0=jP)/\w.length=4 then
  (lZ o ((dG (nth .str w 1)).1,if nth .str w 0=jP then 3 else 2,(dG (nth .str w 2)).1,nth .str w 3,ay s eY,()),(b || (dO (nth .str w 1)).isNone) || (dO (nth .str w 2)).isNone)
 else(o,φ)
def pV{s:aA}{n:Int}(h:dO s=ξ n):(dG s).1=n:=by
 unfold dO at h;unfold dG;cases ha:cp s with
 |ok v=>rw[ha]at h;simp only at h ⊢;split at h <;> simp_all
 |range=>rw[ha]at h;cases h
 |_=>rw[ha]at h;cases h
def W5(o:D aB)(b:Bool)(s:aA):(∃p,sd o s=ξ p/\iU o b s=(p,b))\/(sd o s=χ/\(iU o b s).2=φ):=by
 unfold sd iU;generalize hw:parts 32 (a8 s eY)=w;generalize ay s eY=k;have hne:=ri 32 (a8 s eY);rw[hw]at hne
 match w,hne with
 |[],hne=>exact absurd rfl hne
 |[a],_=>exact .inr ⟨rfl,ς⟩
 |[a,x],_=>
  dsimp only[pT];simp only[show nth .str [a,x] 0=a from rfl,show nth .str [a,x] 1=x from rfl];by_cases h1:a=iK
  ·rw[π h1,π (show(a=iK)/\[a,x].length=2 from⟨h1,rfl⟩)];exact .inl ⟨_,rfl,rfl⟩
  ·rw[ε h1,ε (show ¬((a=iK)/\[a,x].length=2)from fun e=>h1 e.1)]
   by_cases h2:a=iv
   ·rw[π h2,π (show(a=iv)/\[a,x].length=2 from⟨h2,rfl⟩)]
    cases hn:dO x with
    |none=>exact .inr ⟨rfl,ς⟩
    |some n=>exact .inl ⟨_,rfl,by rw[pV hn];simp⟩
   ·rw[ε h2,ε (show ¬((a=iv)/\[a,x].length=2)from fun e=>h2 e.1),ε (show ¬((a=gw)/\[a,x].length=3)from fun e=>absurd e.2 ς),ε (show ¬((a=kU)/\[a,x].length=3)from fun e=>absurd e.2 ς),ε (show ¬((a=iZ\/a=jP)/\[a,x].length=4)from fun e=>absurd e.2 ς)];exact .inr ⟨rfl,rfl⟩
 |[a,x,y],_=>
  dsimp only[pT];simp only[show nth .str [a,x,y] 0=a from rfl,show nth .str [a,x,y] 1=x from rfl,show nth .str [a,x,y] 2=y from rfl];rw[ε (show ¬((a=iK)/\[a,x,y].length=2)from fun e=>absurd e.2 ς),ε (show ¬((a=iv)/\[a,x,y].length=2)from fun e=>absurd e.2 ς)];by_cases h1:a=gw
  ·rw[π h1,π (show(a=gw)/\[a,x,y].length=3 from⟨h1,rfl⟩)]
   cases hn:dO y with
   |none=>exact .inr ⟨rfl,ς⟩
   |some n=>exact .inl ⟨_,rfl,by rw[pV hn];simp⟩
  ·rw[ε h1,ε (show ¬((a=gw)/\[a,x,y].length=3)from fun e=>h1 e.1)]
   by_cases h2:a=kU
   ·rw[π h2,π (show(a=kU)/\[a,x,y].length=3 from⟨h2,rfl⟩)]
    unfold Fj;cases hm:dO x with
    |none=>exact .inr ⟨rfl,ς⟩
    |some m=>
     cases hn:dO y with
     |none=>exact .inr ⟨rfl,ς⟩
     |some n=>exact .inl ⟨_,rfl,by rw[pV hn,pV hm];simp⟩
   ·rw[ε h2,ε (show ¬((a=kU)/\[a,x,y].length=3)from fun e=>h2 e.1),ε (show ¬((a=iZ\/a=jP)/\[a,x,y].length=4)from fun e=>absurd e.2 ς)];exact .inr ⟨rfl,rfl⟩
 |[a,x,y,z],_=>
  dsimp only[pT];simp only[show nth .str [a,x,y,z] 0=a from rfl,show nth .str [a,x,y,z] 1=x from rfl,show nth .str [a,x,y,z] 2=y from rfl,show nth .str [a,x,y,z] 3=z from rfl];rw[ε (show ¬((a=iK)/\[a,x,y,z].length=2)from fun e=>absurd e.2 ς),ε (show ¬((a=iv)/\[a,x,y,z].length=2)from fun e=>absurd e.2 ς),ε (show ¬((a=gw)/\[a,x,y,z].length=3)from fun e=>absurd e.2 ς),ε (show ¬((a=kU)/\[a,x,y,z].length=3)from fun e=>absurd e.2 ς)];by_cases h1:a=iZ\/a=jP
  ·rw[π h1,π (show(a=iZ\/a=jP)/\[a,x,y,z].length=4 from⟨h1,rfl⟩)]
   unfold Fj;cases hm:dO x with
   |none=>exact .inr ⟨rfl,ς⟩
   |some m=>
    cases hn:dO y with
    |none=>exact .inr ⟨rfl,ς⟩
    |some n=>exact .inl ⟨_,rfl,by rw[pV hn,pV hm];simp⟩
  ·rw[ε h1,ε (show ¬((a=iZ\/a=jP)/\[a,x,y,z].length=4)from fun e=>h1 e.1)];exact .inr ⟨rfl,rfl⟩
 |a :: x :: y :: z :: u :: r,_=>exact .inr ⟨rfl,ς⟩
def Z8(o:D aB)(s:aA):(iU o φ s).2=φ:=by
 unfold iU;simp only[Bool.true_or];split
 ·rfl
 ·split
  ·rfl
  ·split
   ·rfl
   ·split
    ·rfl
    ·split <;> rfl
def Z9(o:D aB)(b:Bool)(s:aA) :
  (iU o b s).1.1.length<=o.1.length+1/\(iU o b s).1.2.1.length<=o.2.1.length+1/\(iU o b s).1.2.2.1.length<=o.2.2.1.length+1/\(iU o b s).1.2.2.2.1.length<=o.2.2.2.1.length+1:=by
 have e:∀{α:Type} (l:List α) (x:α),(l++[x]).length<=l.length+1:=fun l x=>by simp
 have e0:∀n:Nat,n<=n+1:=fun n=>bb n
 unfold iU;simp only;split
 ·exact⟨e _ _,e0 _,e0 _,e0 _⟩
 ·split
  ·exact⟨e0 _,e _ _,e0 _,e0 _⟩
  ·split
   ·exact⟨e0 _,e0 _,e _ _,e0 _⟩
   ·split
    ·exact⟨e0 _,e0 _,e0 _,e _ _⟩
    ·split
     ·exact⟨e0 _,e0 _,e0 _,e _ _⟩
     ·exact⟨e0 _,e0 _,e0 _,e0 _⟩
structure od (L:List aA) (i:Nat) (o:D aB) (b:Bool):Prop where
 le:i<=L.length
 st:(run sd (cD aB) (L.take i)=ξ o/\b=ψ)\/(run sd (cD aB) (L.take i)=χ/\b=φ)
 l1:o.1.length<=i
 l2:o.2.1.length<=i
 l3:o.2.2.1.length<=i
 l4:o.2.2.2.1.length<=i
def od.zero(L:List aA):od L 0 (cD aB) ψ:=⟨ao _,.inl ⟨rfl,rfl⟩,au _,au _,au _,au _⟩
def od.next{L:List aA}{i:Nat}{o:D aB}{b:Bool}(h:od L i o b)(hi:i<L.length):od L (i+1) (iU o b (nth .str L i)).1 (iU o b (nth .str L i)).2:=by
 obtain⟨a1,a2,a3,a4⟩:=Z9 o b (nth .str L i);refine⟨hi,?_,by have:=h.l1;omega,by have:=h.l2;omega,by have:=h.l3;omega,by have:=h.l4;omega⟩;rw[fJ (t:=.str) hi,Fk];rcases h.st with⟨hr,hb⟩|⟨hr,hb⟩
 ·rw[hr,e9]
  rcases W5 o b (nth .str L i)with⟨p,h1,h2⟩|⟨h1,h2⟩
  ·rw[h2];exact .inl ⟨h1,hb⟩
  ·exact .inr ⟨h1,h2⟩
 ·rw[hr,hb];exact .inr ⟨rfl,Z8 o _⟩
abbrev Rd:=aA->aA×Int×Int
structure gG (rd:Rd):Prop where
 code:∀s,(rd s).2.2=0\/(rd s).2.2=5
 pW:∃K:List aA,K.length<=6/\∀s,(rd s).2.2=0->s∈K
def fZ(ns l:List aA):List aA:=l.foldl (fun ns s=>if ns.any (· == s)=φ then ns else ns++[s]) ns
def lz(rd:Rd)(s:aA):D aB:=(bY (rd s).1).1
def fQ(rd:Rd)(s:aA):Int:=if(rd s).2.2=0 then(bY (rd s).1).2 else(rd s).2.2
def kY(rd:Rd):Nat->Nat->List aA->List (D aB)->List aA×List (D aB)×Int
 |0,_,ns,os=>(ns,os,0)
 |k+1,i,ns,os=>
  if i<ns.length then
   if fQ rd (nth .str ns i)=0 then kY rd k (i+1) (fZ ns (lz rd (nth .str ns i)).1) (os++[lz rd (nth .str ns i)])
   else([],[],fQ rd (nth .str ns i))
  else(ns,os,0)
def aX(rd:Rd)(root:aA):List aA×List (D aB)×Int:=kY rd 7 0 [root] []
def zV(s:aA):((bY s).2=0/\cQ (bY s).1=0/\fV (bY s).1=s)\/bY s=(cD aB,2)\/bY s=(cD aB,4):=by
 by_cases h:s.length > 1200
 ·exact .inr (.inl (B7 h))
 ·by_cases h2:∃o:D aB,cQ o=0/\fV o=s
  ·obtain⟨o,h3,h4⟩:=h2
   rw[C8 h h3 h4];exact .inl ⟨rfl,h3,h4⟩
  ·exact .inr (.inr (sW h fun o h3 h4=>h2 ⟨o,h3,h4⟩))
def xv(s:aA):0<=(bY s).2:=by
 rcases zV s with⟨h,_⟩|h|h <;> rw[h] <;> decide
def zW{s:aA}(h:(bY s).2=0):cQ (bY s).1=0:=by
 rcases zV s with⟨_,h,_⟩|h'|h'
 ·exact h
 ·rw[h']at h;cases h
 ·rw[h']at h;cases h
def I5{rd:Rd}(h:gG rd)(s:aA):0<=fQ rd s:=by
 unfold fQ;split
 ·exact xv _
 ·rcases h.code s with e|e <;> rw[e] <;> decide
def lE{rd:Rd}(h:gG rd){s:aA}(e:fQ rd s=0):(rd s).2.2=0/\(bY (rd s).1).2=0:=by
 unfold fQ at e;rcases h.code s with c|c
 ·rw[π c]at e;exact⟨c,e⟩
 ·rw[ε (by rw[c];decide),c]at e;cases e
def B8{rd:Rd}{s:aA}(e:¬(rd s).2.2=0):fQ rd s=(rd s).2.2:=by unfold fQ;rw[ε e]
def xw{rd:Rd}{s:aA}(e:(rd s).2.2=0):fQ rd s=(bY (rd s).1).2:=by unfold fQ;rw[π e]
def O6(ns:List aA):fZ ns []=ns:=rfl
def B9(ns l:List aA)(s:aA):fZ ns (s :: l)=fZ (if ns.any (· == s)=φ then ns else ns++[s]) l:=rfl
def aaa(ns l:List aA)(s:aA):fZ ns (l++[s])=if(fZ ns l).any (· == s)=φ then fZ ns l else fZ ns l++[s]:=by
 unfold fZ;rw[fk];rfl
def UH{ns:List aA}{s:aA}:ns.any (· == s)=φ↔s∈ns:=by
 rw[cg];constructor
 ·rintro⟨x,hx,e⟩;rw[<-(by simpa using e:x=s)];exact hx
 ·intro h;exact⟨s,h,ς⟩
def rl:∀(l ns:List aA),∃r,fZ ns l=ns++r/\r.length<=l.length/\∀s∈r,s∈l
 |[],ns=>⟨[],by simp[O6],ς,ς⟩
 |x :: l,ns=>by
  rw[B9];split
  ·obtain⟨r,h1,h2,h3⟩:=rl l ns
   exact⟨r,h1,by simp;omega,fun s hs=>by simp[h3 s hs]⟩
  ·obtain⟨r,h1,h2,h3⟩:=rl l (ns++[x])
   refine⟨x :: r,by rw[h1];simp,by simp;omega,fun s hs =>?_⟩;rcases ag.1 hs with rfl|hs
   ·simp
   ·simp[h3 s hs]
def zX:∀(l ns:List aA),ns.Nodup->(fZ ns l).Nodup
 |[],ns,h=>h
 |x :: l,ns,h=>by
  rw[B9];split
  ·exact zX l ns h
  ·rename_i hx
   refine zX l _ ?_;rw[ey];refine⟨h,ς,fun a ha b hb e=>hx (UH.2 ?_)⟩;simp at hb;subst hb;exact e▸ha
def O7:∀(l ns:List aA),∀s∈l,s∈fZ ns l
 |[],_,s,h=>by simp at h
 |x :: l,ns,s,h=>by
  rw[B9];rcases ag.1 h with rfl|h
  ·split
   ·rename_i hx
    obtain⟨r,h1,_⟩:=rl l ns;rw[h1];exact fb _ (UH.1 hx)
   ·obtain⟨r,h1,_⟩:=rl l (ns++[s])
    rw[h1];simp
  ·exact O7 l _ s h
def KH{ns l:List aA}{i:Nat}(h:i<l.length):fZ ns (l.take (i+1))=if(fZ ns (l.take i)).any (· == nth .str l i)=φ then fZ ns (l.take i)else fZ ns (l.take i)++[nth .str l i]:=by
 rw[fJ (t:=.str) h,aaa]
def wO{t:Ty}{a b:List (D t)}{i:Nat}(h:i<a.length):nth t (a++b) i=nth t a i:=by rw[r5,π h]
structure l5 (rd:Rd) (root:aA) (i:Nat) (ns:List aA) (os:List (D aB)):Prop where
 eq:kY rd (7-i) i ns os=aX rd root
 le:i<=6
 lo:i<=ns.length
 pos:0<ns.length
 len:os.length=i
 hi:ns.length<=1+4*i
 head:nth .str ns 0=root
 nd:ns.Nodup
 AO:∀j,j<i->fQ rd (nth .str ns j)=0/\nth aB os j=lz rd (nth .str ns j)
 want:∀j,j<ns.length->j≠0->∃k,k<i/\k<j/\nth .str ns j∈(nth aB os k).1
 vO:∀j,j<i->∀s∈(nth aB os j).1,s∈ns
def l5.zero(rd:Rd)(root:aA):l5 rd root 0 [root] []:=
 ⟨rfl,ω,ς,ς,rfl,ς,rfl,ς,fun j h=>by omega,fun j h h'=>by simp at h;omega,fun j h=>by omega⟩
def l5.room{rd:Rd}{root:aA}{i:Nat}{ns:List aA}{os:List (D aB)}(ok:gG rd)(h:l5 rd root i ns os)(hi:i<ns.length)(hf:fQ rd (nth .str ns i)=0):i+1<=6:=by
 obtain⟨K,hK,hm⟩:=ok.pW;have hsub:∀y∈ns.take (i+1),y∈K:=by
  intro y hy;obtain⟨j,hj,rfl⟩:=gO (t:=.str) hy;rw[bc]at hj;rw[Fb (t:=.str) ω];refine hm _ (lE ok ?_).1;rcases br j i with hl|hl
  ·exact(h.AO j hl).1
  ·rw[show j=i by omega];exact hf
 have:=BS (h.nd.sublist (List.take_sublist (i+1) ns)) hsub;rw[bc]at this;omega
def l5.fuel{rd:Rd}{root:aA}{i:Nat}{ns:List aA}{os:List (D aB)}(h:l5 rd root i ns os):kY rd (6-i+1) i ns os=aX rd root:=by
 rw[<-h.eq];congr 1;have:=h.le;omega
def l5.bad{rd:Rd}{root:aA}{i:Nat}{ns:List aA}{os:List (D aB)}(h:l5 rd root i ns os)(hi:i<ns.length)(hf:¬fQ rd (nth .str ns i)=0) :
  aX rd root=([],[],fQ rd (nth .str ns i)):=by
 rw[<-h.fuel,kY,π hi,ε hf]
def l5.done{rd:Rd}{root:aA}{i:Nat}{ns:List aA}{os:List (D aB)}(h:l5 rd root i ns os)(hi:¬i<ns.length):aX rd root=(ns,os,0):=by
 rw[<-h.fuel,kY,ε hi]
def Fo{rd:Rd}(ok:gG rd){s:aA}(hf:fQ rd s=0):mh (lz rd s):=iY (zW (lE ok hf).2)
def l5.next{rd:Rd}{root:aA}{i:Nat}{ns:List aA}{os:List (D aB)}(ok:gG rd)(h:l5 rd root i ns os)(hi:i<ns.length)(hf:fQ rd (nth .str ns i)=0) :
  l5 rd root (i+1) (fZ ns (lz rd (nth .str ns i)).1) (os++[lz rd (nth .str ns i)]):=by
 have hr:=h.room ok hi hf;have ho:=Fo ok hf;obtain⟨r,h1,h2,h3⟩:=rl (lz rd (nth .str ns i)).1 ns;have hn4:=ho.n4;have hlen:=h.len;have hhi:=h.hi;have hpos:=h.pos;have hos:nth aB (os++[lz rd (nth .str ns i)]) i=lz rd (nth .str ns i):=by rw[r5,ε ω,h.len,Nat.sub_self];rfl
 have hns:∀j,j<ns.length->nth .str (fZ ns (lz rd (nth .str ns i)).1) j=nth .str ns j:=fun j hj=>by rw[h1,wO (t:=.str) hj]
 have hoj:∀j,j<i->nth aB (os++[lz rd (nth .str ns i)]) j=nth aB os j:=fun j hj=>wO (t:=aB) ω
 refine⟨?_,hr,by rw[h1,a7];omega,by rw[h1,a7];omega,by rw[a7,h.len];rfl,by rw[h1,a7];omega,
  by rw[hns 0 hpos];exact h.head,zX _ _ h.nd,fun j hj =>?_,fun j hj h0 =>?_,fun j hj s hs =>?_⟩
 ·rw[<-h.fuel,kY,π hi,π hf];congr 1;omega
 ·rcases br j i with hl|hl
  ·rw[hns j ω,hoj j hl];exact h.AO j hl
  ·rw[show j=i by omega,hns i hi,hos];exact⟨hf,rfl⟩
 ·rcases br j ns.length with hl|hl
  ·obtain⟨k,k1,k2,k3⟩:=h.want j hl h0
   exact⟨k,ω,k2,by rw[hns j hl,hoj k k1];exact k3⟩
  ·refine⟨i,ω,ω,?_⟩
   rw[hos,h1,r5,ε ω];refine h3 _ (eG (t:=.str) ?_);rw[h1,a7]at hj;omega
 ·rcases br j i with hl|hl
  ·rw[hoj j hl]at hs
   rw[h1];exact fb _ (h.vO j hl s hs)
  ·rw[show j=i by omega,hos]at hs
   exact O7 _ _ s hs
structure Scope (rd:Rd) (root:aA) (ns:List aA) (os:List (D aB)):Prop where
 le:ns.length<=6
 pos:0<ns.length
 len:os.length=ns.length
 head:nth .str ns 0=root
 nd:ns.Nodup
 AO:∀j,j<ns.length->fQ rd (nth .str ns j)=0/\nth aB os j=lz rd (nth .str ns j)
 want:∀j,j<ns.length->j≠0->∃k,k<j/\nth .str ns j∈(nth aB os k).1
 vO:∀j,j<ns.length->∀s∈(nth aB os j).1,s∈ns
def G0{rd:Rd}{root:aA}(ok:gG rd):∀(m i:Nat) (ns:List aA) (os:List (D aB)),m=7-i->l5 rd root i ns os->
  (∃f,0<f/\aX rd root=([],[],f))\/(∃ns os,aX rd root=(ns,os,0)/\Scope rd root ns os)
 |0,i,ns,os,hm,h=>by have:=h.le;omega
 |m+1,i,ns,os,hm,h=>by
  by_cases hi:i<ns.length
  ·by_cases hf:fQ rd (nth .str ns i)=0
   ·exact G0 ok m (i+1) _ _ ω (h.next ok hi hf)
   ·have:=I5 ok (nth .str ns i)
    exact .inl ⟨_,ω,h.bad hi hf⟩
  ·have h1:=h.lo
   have h2:=h.le;have e:i=ns.length:=by omega
   subst e;exact .inr ⟨ns,os,h.done hi,h2,h.pos,h.len,h.head,h.nd,h.AO,fun j hj h0=>let⟨k,_,k2,k3⟩:=h.want j hj h0;⟨k,k2,k3⟩,h.vO⟩
def xx{rd:Rd}(ok:gG rd)(root:aA):(∃f,0<f/\aX rd root=([],[],f))\/(∃ns os,aX rd root=(ns,os,0)/\Scope rd root ns os):=
 G0 ok 7 0 _ _ rfl (l5.zero rd root)
def zY{rd:Rd}(ok:gG rd){root:aA}(h:(aX rd root).2.2=0):Scope rd root (aX rd root).1 (aX rd root).2.1:=by
 rcases xx ok root with⟨f,hf,e⟩|⟨ns,os,e,h'⟩
 ·rw[e]at h;simp only at h;omega
 ·rw[e];exact h'
def G1(rd:Rd):∀(k i:Nat) (ns:List aA) (os:List (D aB)),(kY rd k i ns os).2.2=0->∀s∈ns,s∈(kY rd k i ns os).1
 |0,_,ns,os,_=>fun s hs=>hs
 |k+1,i,ns,os,h=>by
  unfold kY at h ⊢;split
  ·rename_i hi
   rw[π hi]at h;split
   ·rename_i hf
    rw[π hf]at h;obtain⟨r,h1,_⟩:=rl (lz rd (nth .str ns i)).1 ns;intro s hs;exact G1 rd k _ _ _ h s (by rw[h1];exact fb _ hs)
   ·rename_i hf
    rw[ε hf]at h;exact absurd h hf
  ·exact fun s hs=>hs
def Ca{rd rd':Rd}:∀(k i:Nat) (ns:List aA) (os:List (D aB)),(kY rd k i ns os).2.2=0->(∀s∈(kY rd k i ns os).1,rd' s=rd s)->kY rd' k i ns os=kY rd k i ns os
 |0,_,ns,os,_,_=>rfl
 |k+1,i,ns,os,h,hs=>by
  by_cases hi:i<ns.length
  ·have hm:=hs _ (G1 rd (k+1) i ns os h _ (eG (t:=.str) hi))
   have e1:fQ rd' (nth .str ns i)=fQ rd (nth .str ns i):=by unfold fQ;rw[hm]
   have e2:lz rd' (nth .str ns i)=lz rd (nth .str ns i):=by unfold lz;rw[hm]
   unfold kY at h hs ⊢;rw[π hi]at h hs ⊢;rw[π hi,e1,e2];by_cases hf:fQ rd (nth .str ns i)=0
   ·rw[π hf]at h hs ⊢
    rw[π hf];exact Ca k _ _ _ h hs
   ·rw[ε hf,ε hf]
  ·unfold kY;rw[ε hi,ε hi]
def SD{rd rd':Rd}{root:aA}(h:(aX rd root).2.2=0)(hs:∀s∈(aX rd root).1,rd' s=rd s):aX rd' root=aX rd root:=Ca _ _ _ _ h hs
def lF{x:cU}(h:x.2.1.1.length<=6):gG (aU x):=by
 refine⟨fun s =>?_,x.2.1.1.map lQ,by rw[dj];exact h,fun s hs =>?_⟩
 ·unfold aU;split
  ·exact .inl rfl
  ·exact .inr rfl
 ·by_cases c:dV cY x.2.1.1 s=φ
  ·obtain⟨y,hy,e⟩:=oH.1 c
   rw[<-e];exact bg hy
  ·rw[ov (by simpa using c)]at hs;cases hs
def dJ{r:RS}(h:r.1.length<=6):gG (bM r.1):=by
 refine⟨zG r.1,r.1.map ko,by rw[dj];exact h,fun s hs =>?_⟩;by_cases c:∃y∈r.1,y.1=s
 ·obtain⟨y,hy,e⟩:=c
  rw[<-e];exact bg hy
 ·rw[zH fun y hy e=>c ⟨y,hy,e⟩]at hs;cases hs
def yd:∀{s:List Int} {l:List (D bE)} {out o:List Int},gv l s out=ξ o->∃ext,o=out++ext/\ext.length=s.length:=by
 intro s;induction s with
 |nil=>intro l out o h;simp only[gv,dr]at h;exact⟨[],by simp[h],rfl⟩
 |cons n r ih=>
  intro l out o h;simp only[gv]at h;split at h
  ·cases h
  ·obtain⟨ext,h1,h2⟩:=ih h
   exact⟨_ :: ext,by rw[h1,c8];rfl,by simp[h2]⟩
def O8{l:List (D bE)}{s o:List Int}{k:Nat}(hk:k<s.length)(h:gv l (s.drop k) (o.take k)=ξ o)(hl:o.length=s.length) :
  (nth (.int .i64) o k:Int)=gV l (cS (nth (.int .i64) s k)) 40 0/\gV l (cS (nth (.int .i64) s k)) 40 0+cS (nth (.int .i64) s k)<=256/\
  gv (l++[(gV l (cS (nth (.int .i64) s k)) 40 0,cS (nth (.int .i64) s k),())]) (s.drop (k+1)) (o.take (k+1))=ξ o:=by
 rw[pP hk]at h;split at h
 ·cases h
 ·rename_i hle
  obtain⟨ext,h1,h2⟩:=yd h;have hlen:(o.take k).length=k:=by rw[bc];omega
  have hget:o[k]?=ξ (gV l (cS (nth (.int .i64) s k)) 40 0):=by
   rw[h1,c8,List.getElem?_append_right ω,hlen,Nat.sub_self];rfl
  refine⟨gK (t:=.int .i64) hget,ω,?_⟩;have:o.take (k+1)=o.take k++[gV l (cS (nth (.int .i64) s k)) 40 0]:=by
   rw[cr,hget];rfl
  rw[this];exact h
def W6{s:List Int}{l:List (D bE)}(h:(cF (s,l)).2.isNil=φ) :
  s.length<=6/\l.length<=20/\(∀j,j<s.length->1<=(nth (.int .i64) s j:Int)/\(nth (.int .i64) s j:Int)<=40)/\(∀y∈l,kI y)/\gv l s []=ξ (cF (s,l)).1/\(cF (s,l)).1.length=s.length:=by
 by_cases h1:6<s.length\/20<l.length
 ·rw[xm h1]at h;cases h
 ·by_cases h2:E9 s=φ\/Fa l=φ
  ·unfold cF at h;rw[ε h1,π h2]at h;cases h
  ·have hs:∀j,j<s.length->1<=(nth (.int .i64) s j:Int)/\(nth (.int .i64) s j:Int)<=40:=by
    intro j hj;apply aq;intro hn;rw[xn h1 hj hn]at h;cases h
   have ht:∀j,j<l.length->kI (nth bE l j):=by
    intro j hj;apply aq;intro hn;rw[vF h1 hj hn]at h;cases h
   rw[tV h1 hs ht]at h ⊢;refine⟨ω,ω,hs,fun y hy =>?_,?_⟩
   ·obtain⟨i,hi,e⟩:=gO (t:=bE) hy;rw[<-e];exact ht i hi
   ·split at h
    ·rename_i o ho
     obtain⟨ext,k1,k2⟩:=yd ho;simp only[ho];exact⟨aa,by rw[k1];simpa using k2⟩
    ·cases h
end Go.Mrl
namespace Go.Mrl
open Go.Vg
def SE{n:Int}:n<=cS n/\cS n<n+16:=by unfold cS;omega
end Go.Mrl

namespace Go.Mrl
open Go.Vg
def kV(s:List Int):Nat->Int
 |0=>0
 |k+1=>kV s k+cS (nth (.int .i64) s k)
def zZ(l:List (Int×Int×Unit))(S:Int):Prop:=0<=S/\(∃m:Nat,S=16*(m:Int))/\(∀y∈l,y.1+y.2.1<=S)/\∀p:Int,0<=p->p<S->∃y∈l,y.1<=p/\p<y.1+y.2.1
def zZ.nil:zZ [] 0:=⟨ax _,⟨0,rfl⟩,fun y hy=>by simp at hy,fun p h1 h2=>by omega⟩
def zZ.snoc{l:List (Int×Int×Unit)}{S m:Int}(h:zZ l S)(hm:0<m)(h16:∃k:Nat,m=16*(k:Int)):zZ (l++[(S,m,())]) (S+m):=by
 obtain⟨h1,⟨a,h2⟩,h3,h4⟩:=h;obtain⟨k,h5⟩:=h16;refine⟨ω,⟨a+k,ω⟩,fun y hy =>?_,fun p h6 h7 =>?_⟩
 ·rcases ba.1 hy with hy|hy
  ·have:=h3 y hy;omega
  ·simp only[ez]at hy;subst hy;simp only;omega
 ·by_cases c:p<S
  ·obtain⟨y,hy,h8⟩:=h4 p h6 c
   exact⟨y,by simp[hy],h8⟩
  ·exact⟨(S,m,()),ς,by simp only;omega⟩
def zZ.base{l:List (Int×Int×Unit)}{S many:Int}(h:zZ l S)(hm:0<many):∀(n:Nat) (k:Nat),16*(k:Int)<=S->S-16*(k:Int)<16*(n:Int)->gV l many n (16*(k:Int))=S:=by
 obtain⟨h1,⟨a,h2⟩,h3,h4⟩:=h;intro n;induction n with
 |zero=>intro k hk hn;omega
 |succ n ih=>
  intro k hk hn;by_cases c:16*(k:Int)=S
  ·rw[c]
   apply tx;refine GF fun j hj =>?_
   have:=h3 _ (eG (t:=bE) hj);rw[xl];simp only;omega
  ·obtain⟨y,hy,h8,h9⟩:=h4 (16*(k:Int)) ω ω
   have hf:jN (16*(k:Int),many,()) l=ψ:=by
    obtain⟨j,hj,e⟩:=gO (t:=bE) hy;refine DN hj ?_;rw[e,BE];simp only;omega
   rw[J8 hf,show 16*(k:Int)+16=16*((k+1:Nat):Int) by omega];exact ih (k+1) ω ω
def ahn{n:Int}(h:1<=n):∃k:Nat,cS n=16*(k:Int):=⟨((n+15) / 16).toNat,by unfold cS;omega⟩
def W7{s:List Int}(hs:∀j,j<s.length->1<=(nth (.int .i64) s j:Int)/\(nth (.int .i64) s j:Int)<=40):∀d k,k+d<=s.length->kV s k<=kV s (k+d):=by
 intro d;induction d with
 |zero=>intro k _;exact ax _
 |succ d ih=>
  intro k hk;have h1:=ih k ω;have h2:=hs (k+d) ω;have h3:=eM h2.1 h2.2;have e:kV s (k+(d+1))=kV s (k+d)+cS (nth (.int .i64) s (k+d)):=rfl;rw[e];omega
def aep{s:List Int}(hs:∀j,j<s.length->1<=(nth (.int .i64) s j:Int)/\(nth (.int .i64) s j:Int)<=40):∀(d k:Nat) {l:List (Int×Int×Unit)} {o:List Int},k+d=s.length->zZ l (kV s k)->kV s k<=256->
  o.length=s.length->gv l (s.drop k) (o.take k)=ξ o->kV s s.length<=256/\∀i,k<=i->i<s.length->(nth (.int .i64) o i:Int)=kV s i:=by
 intro d;induction d with
 |zero=>
  intro k l o hk hc hle hl h;have e:k=s.length:=by omega
  subst e;exact⟨hle,fun i h1 h2=>by omega⟩
 |succ d ih=>
  intro k l o hk hc hle hl h;have h2:=hs k ω;have h3:=eM h2.1 h2.2;have hb:=hc.base (many:=cS (nth (.int .i64) s k)) ω 40 0 (by have:=hc.1;omega) ω;simp only[Int.natCast_zero,Int.mul_zero]at hb;obtain⟨n1,n2,n3⟩:=O8 (k:=k) ω h hl;rw[hb]at n1 n2 n3;have e:kV s (k+1)=kV s k+cS (nth (.int .i64) s k):=rfl;obtain⟨r1,r2⟩:=ih (k+1) ω (l:=l++[(kV s k,cS (nth (.int .i64) s k),())]) (by rw[e];exact hc.snoc ω (ahn h2.1)) ω hl n3;refine⟨r1,fun i h4 h5 =>?_⟩;rcases br k i with c|c
  ·exact r2 i ω h5
  ·rw[show i=k by omega];exact n1
def aab{s:List Int}(h:(cF (s,[])).2.isNil=φ):(cF (s,[])).1.length=s.length/\(∀j,j<s.length->1<=(nth (.int .i64) s j:Int)/\(nth (.int .i64) s j:Int)<=40)/\
  kV s s.length<=256/\∀i,i<s.length->(nth (.int .i64) (cF (s,[])).1 i:Int)=kV s i:=by
 obtain⟨_,_,h3,_,h5,h6⟩:=W6 h;obtain⟨r1,r2⟩:=aep h3 s.length 0 (l:=[]) (o:=(cF (s,[])).1) ω zZ.nil (by simp[kV]) h6 (by rw[e8,gd];exact h5);exact⟨h6,h3,r1,fun i hi=>r2 i (ao _) hi⟩
def bX(l:List (D aB)):List Int:=l.map fun o=>(o.2.1.length:Int)
def cM(l:List (D aB)):Ws:=l.map fun o=>o.2.1
def qw(l:List (D aB)):(bX l).length=l.length:=by simp[bX]
def oK(l:List (D aB)):(cM l).length=l.length:=by simp[cM]
def sX{t u:Ty}{f:D u->D t}{l:List (D u)}{i:Nat}(h:i<l.length):nth t (l.map f) i=f (nth u l i):=by
 unfold nth;rw[List.getD_eq_getElem?_getD,List.getD_eq_getElem?_getD,List.getElem?_map,List.getElem?_eq_getElem h];rfl
def G2{l:List (D aB)}{i:Nat}(h:i<l.length):(nth (.int .i64) (bX l) i:Int)=((nth aB l i).2.1.length:Int):=sX (u:=aB) (t:=.int .i64) h
def qx{l:List (D aB)}{i:Nat}(h:i<l.length):nth jh (cM l) i=(nth aB l i).2.1:=sX (u:=aB) (t:=jh) h
def tB{l:List (D aB)}{i:Nat}(h:i<l.length):bX (l.take (i+1))=bX (l.take i)++[((nth aB l i).2.1.length:Int)]:=by
 unfold bX;rw[mf (t:=aB) h];simp
def D0{l:List (D aB)}{i:Nat}(h:i<l.length):cM (l.take (i+1))=cM (l.take i)++[(nth aB l i).2.1]:=by
 unfold cM;rw[mf (t:=aB) h];simp
def Fp(l:List (D aB))(b:List Int)(i:Nat)(ts:List (D aV)):List Pt:=ts.map fun t=>((i:Int),t.1,(fY l b i t).1,())
def uw(l:List (D aB))(b:List Int):List (D aB)->Nat->List Pt
 |[],_=>[]
 |o :: r,i=>Fp l b i o.2.2.2.1++uw l b r (i+1)
def UI{l:List (D aB)}{b:List Int}{i:Nat}:∀{ts:List (D aV)} {out:List Pt},(mu l b i ts out).2.isNil=φ->mu l b i ts out=(out++Fp l b i ts,.nil)/\∀t∈ts,(fY l b i t).2.isNil=φ
 |[],out,_=>⟨by simp[mu,Fp],ς⟩
 |t :: r,out,h=>by
  rw[mu]at h ⊢;by_cases c:(fY l b i t).2.isNil=φ
  ·rw[π c]at h ⊢
   obtain⟨h1,h2⟩:=UI h;refine⟨by rw[h1];simp[Fp],fun u hu =>?_⟩;rcases ag.1 hu with rfl|hu
   ·exact c
   ·exact h2 u hu
  ·rw[ε c]at h;exact absurd h c
def UJ{l:List (D aB)}{b:List Int}:∀{os:List (D aB)} {i:Nat} {out:List Pt},(mg l b os i out).2.isNil=φ->mg l b os i out=(out++uw l b os i,.nil)/\
  ∀k,k<os.length->∀t∈(nth aB os k).2.2.2.1,(fY l b ((i+k:Nat):Int) t).2.isNil=φ
 |[],i,out,_=>⟨by simp[mg,uw],fun k hk=>by simp at hk⟩
 |o :: r,i,out,h=>by
  rw[mg]at h ⊢;unfold kS at h ⊢;by_cases c:(mu l b i o.2.2.2.1 out).2.isNil=φ
  ·rw[π c]at h ⊢
   obtain⟨h1,h2⟩:=UI c;obtain⟨h3,h4⟩:=UJ h;refine⟨by rw[h3,h1];simp[uw],fun k hk =>?_⟩;rcases k with _|k
   ·exact h2
   ·have:=h4 k (by simpa using hk)
    rw[show i+1+k=i+(k+1) by omega]at this;exact this
  ·rw[ε c]at h;exact absurd h c
def aeq{l:List (D aB)}{b:List Int}(h:(eX (l,b)).2.isNil=φ):b.length=l.length/\mr b/\(eX (l,b)).1=uw l b l 0/\∀k,k<l.length->∀t∈(nth aB l k).2.2.2.1,(fY l b (k:Int) t).2.isNil=φ:=by
 have h':=h;unfold eX at h ⊢;split at h
 ·cases h
 ·rename_i hl
  split at h
  ·rename_i hb
   obtain⟨h1,h2⟩:=UJ h;refine⟨aq hl,hb,?_,fun k hk t ht=>by have:=h2 k hk t ht;rwa [eg]at this⟩;rw[ε hl,π hb,h1];rfl
  ·cases h
def Fq{l:List (D aB)}{b:List Int}:∀{os:List (D aB)} {i:Nat} {p:Pt},p∈uw l b os i->∃k t,k<os.length/\t∈(nth aB os k).2.2.2.1/\p=(((i+k:Nat):Int),t.1,(fY l b ((i+k:Nat):Int) t).1,())
 |[],i,p,h=>by simp[uw]at h
 |o :: r,i,p,h=>by
  rcases ba.1 h with h|h
  ·obtain⟨t,ht,rfl⟩:=bj.1 h
   exact⟨0,t,ς,ht,rfl⟩
  ·obtain⟨k,t,hk,ht,rfl⟩:=Fq h
   exact⟨k+1,t,by simp;omega,ht,by rw[show i+1+k=i+(k+1) by omega]⟩
def uL(x:List Int×List (D bE)):Told (cF x).2:=by
 unfold cF;split
 ·rfl
 ·split
  ·rfl
  ·split <;> rfl
def aer(x:Ws×List Pt):Told (kO x).2:=by
 unfold kO;split <;> rfl
def uM{e:aR}(h:Told e):aP (jB e)=e:=by
 cases e with
 |nil=>rfl
 |no m=>
  have h':0<m:=by have:=h;simpa[Told,nf,jB]using this
  have h2:¬m=0:=by omega
  show aP m=_;unfold aP;rw[ε h2]
 |other=>unfold Told at h;simp[nf]at h
def Fs{e:aR}(h:Told e)(hn:e.isNil=ψ):0<jB e:=by
 cases e with
 |nil=>cases hn
 |no m=>
  have h':0<m:=by have:=h;simpa[Told,nf,jB]using this
  exact h'
 |other=>unfold Told at h;simp[nf]at h
abbrev Rk:=List aA×List (D aB)×List Int×List Pt×Int
def bC(rd:Rd)(root:aA):Rk:=
 if ¬(aX rd root).2.2=0 then([],[],[],[],(aX rd root).2.2)
 else if(cF (bX (aX rd root).2.1,[])).2.isNil=ψ then([],[],[],[],jB (cF (bX (aX rd root).2.1,[])).2)
 else if(eX ((aX rd root).2.1,(cF (bX (aX rd root).2.1,[])).1)).2.isNil=ψ then([],[],[],[],jB (eX ((aX rd root).2.1,(cF (bX (aX rd root).2.1,[])).1)).2)
 else((aX rd root).1,(aX rd root).2.1,(cF (bX (aX rd root).2.1,[])).1,(eX ((aX rd root).2.1,(cF (bX (aX rd root).2.1,[])).1)).1,0)
def vQ{rd:Rd}{root:aA}(h:¬(aX rd root).2.2=0):bC rd root=([],[],[],[],(aX rd root).2.2):=by unfold bC;rw[π h]
def vR{rd:Rd}{root:aA}(h:(aX rd root).2.2=0)(h1:(cF (bX (aX rd root).2.1,[])).2.isNil=ψ):bC rd root=([],[],[],[],jB (cF (bX (aX rd root).2.1,[])).2):=by
 unfold bC;rw[ε (not_not_intro h),π h1]
def z1{rd:Rd}{root:aA}(h:(aX rd root).2.2=0)(h1:(cF (bX (aX rd root).2.1,[])).2.isNil=φ)(h2:(eX ((aX rd root).2.1,(cF (bX (aX rd root).2.1,[])).1)).2.isNil=ψ) :
  bC rd root=([],[],[],[],jB (eX ((aX rd root).2.1,(cF (bX (aX rd root).2.1,[])).1)).2):=by
 unfold bC;rw[ε (not_not_intro h),ε (by rw[h1];decide),π h2]
def xy{rd:Rd}{root:aA}(h:(aX rd root).2.2=0)(h1:(cF (bX (aX rd root).2.1,[])).2.isNil=φ)(h2:(eX ((aX rd root).2.1,(cF (bX (aX rd root).2.1,[])).1)).2.isNil=φ) :
  bC rd root=((aX rd root).1,(aX rd root).2.1,(cF (bX (aX rd root).2.1,[])).1,(eX ((aX rd root).2.1,(cF (bX (aX rd root).2.1,[])).1)).1,0):=by
 unfold bC;rw[ε (not_not_intro h),ε (by rw[h1];decide),ε (by rw[h2];decide)]
structure jn (rd:Rd) (root:aA) (ns:List aA) (os:List (D aB)) (bs:List Int) (ps:List Pt):Prop where
 e:aX rd root=(ns,os,0)
 sc:Scope rd root ns os
 eb:cF (bX os,[])=(bs,.nil)
 ea:eX (os,bs)=(ps,.nil)
 bl:bs.length=os.length
 bi:mr bs
 pt:ps=uw os bs os 0
 one:∀k,k<os.length->∀t∈(nth aB os k).2.2.2.1,(fY os bs (k:Int) t).2.isNil=φ
 okp:∀i,i<ps.length->wD (cM os) (nth aQ ps i)
def KI{e:aR}(h:e.isNil=φ):e=.nil:=by cases e <;> first|rfl|cases h
def Scope.obj{rd:Rd}{root:aA}{ns:List aA}{os:List (D aB)}(ok:gG rd)(h:Scope rd root ns os){i:Nat}(hi:i<os.length):mh (nth aB os i):=by
 have:=h.AO i (by rw[<-h.len];exact hi);rw[this.2];exact Fo ok this.1
def mh.aes{o:D aB}(h:mh o):agE o:=by
 refine⟨by have:=h.t6;omega,fun i hi =>?_,fun i hi =>?_⟩
 ·have:=(h.sym hi).2;unfold jv at this;unfold Small;omega
 ·have:=h.tie hi
  have a:=this.a;have w:=this.w;unfold jv at a w;unfold Small Word;omega
def Scope.aes{rd:Rd}{root:aA}{ns:List aA}{os:List (D aB)}(ok:gG rd)(h:Scope rd root ns os):lX os:=⟨by have:=h.le;have:=h.len;omega,fun _ hi=>(h.obj ok hi).aes⟩
def aac{a n:Int}(h:a<=n-1):a<n:=by omega
def SF{o:D aB}(h:cQ o=0):jO o.2.1.length [] o.2.2.1=0/\mB o.2.1.length χ o.2.2.2.1=0:=by
 unfold cQ at h;split at h
 ·cases h
 ·split at h
  ·rename_i h1;exact absurd h h1
  ·split at h
   ·rename_i h2;exact absurd h h2
   ·split at h
    ·rename_i h3;exact absurd h h3
    ·rename_i h3;exact⟨aq h3,h⟩
def W8{o:D aB}(h:cQ o=0){t:D aV}(ht:t∈o.2.2.2.1):0<=t.1/\t.1<(o.2.1.length:Int):=by
 obtain⟨p,hp⟩:=zL _ _ _ (SF h).2 t ht;obtain⟨⟨a,b⟩,_⟩:=KA hp;exact⟨a,aac b⟩
def Scope.fault{rd:Rd}{root:aA}{ns:List aA}{os:List (D aB)}(ok:gG rd)(h:Scope rd root ns os){i:Nat}(hi:i<os.length):cQ (nth aB os i)=0:=by
 have:=h.AO i (by rw[<-h.len];exact hi);rw[this.2];exact zW (lE ok this.1).2
def pX{rd:Rd}(ok:gG rd)(root:aA):(∃f,0<f/\bC rd root=([],[],[],[],f))\/(∃ns os bs ps,bC rd root=(ns,os,bs,ps,0)/\jn rd root ns os bs ps):=by
 rcases xx ok root with⟨f,hf,e⟩|⟨ns,os,e,sc⟩
 ·exact .inl ⟨f,hf,by rw[vQ (by rw[e];simp only;omega),e]⟩
 ·have e0:(aX rd root).2.2=0:=by rw[e]
  have e1:(aX rd root).2.1=os:=by rw[e]
  have e2:(aX rd root).1=ns:=by rw[e]
  cases hb:(cF (bX os,[])).2.isNil with
  |false=>exact .inl ⟨_,Fs (uL _) hb,by rw[vR e0 (by rw[e1];exact hb),e1]⟩
  |true=>
   cases ha:(eX (os,(cF (bX os,[])).1)).2.isNil with
   |false=>exact .inl ⟨_,Fs (Fe _) ha,by rw[z1 e0 (by rw[e1];exact hb) (by rw[e1];exact ha),e1]⟩
   |true=>
    obtain⟨a1,a2,a3,a4⟩:=aeq ha;refine .inr ⟨ns,os,_,_,by rw[xy e0 (by rw[e1];exact hb) (by rw[e1];exact ha),e1,e2],e,sc,Prod.ext rfl (KI hb),Prod.ext rfl (KI ha),a1,a2,a3,a4,fun i hi =>?_⟩;obtain⟨k,t,hk,ht,hp⟩:=Fq (by rw[<-a3];exact eG (t:=aQ) hi);rw[hp];have:=W8 (sc.fault ok hk) ht;refine⟨by simp only;omega,by simp only;rw[oK];omega,this.1,?_⟩;simp only[eg];rw[show((k:Int)).toNat=k from rfl,qx hk];exact this.2
def eD(ns:List aA)(bs:List Int)(w:Ws)(n:Nat):List (D bS):=(b7 n).map fun i=>(nth .str ns i,nth (.int .i64) bs i,nth jh w i,())
def oL(ns:List aA)(bs:List Int)(w:Ws)(n:Nat):(eD ns bs w n).length=n:=by simp[eD]
def xz(ns:List aA)(bs:List Int)(w:Ws)(n:Nat):eD ns bs w (n+1)=eD ns bs w n++[(nth .str ns n,nth (.int .i64) bs n,nth jh w n,())]:=by simp[eD,cx]
def G3{ns:List aA}{bs:List Int}{w:Ws}{n i:Nat}(h:i<n):nth bS (eD ns bs w n) i=(nth .str ns i,nth (.int .i64) bs i,nth jh w i,()):=by
 apply gK;simp[eD,h]
def ma(ns:List aA)(bs:List Int)(os:List (D aB))(ps:List Pt):List (D bS)×aR:=
 if ¬ns.length=os.length\/¬bs.length=os.length then([],.no 3)
 else if(kO (cM os,ps)).2.isNil=ψ then([],(kO (cM os,ps)).2)
 else(eD ns bs (kO (cM os,ps)).1 os.length,.nil)
def G4{ns:List aA}{bs:List Int}{os:List (D aB)}{ps:List Pt}(h:¬ns.length=os.length\/¬bs.length=os.length):ma ns bs os ps=([],.no 3):=by unfold ma;rw[π h]
def aet{ns:List aA}{bs:List Int}{os:List (D aB)}{ps:List Pt}(h:ns.length=os.length)(h':bs.length=os.length)(hp:(kO (cM os,ps)).2.isNil=ψ):ma ns bs os ps=([],(kO (cM os,ps)).2):=by
 unfold ma;rw[ε (by rintro(e|e);exact e h;exact e h'),π hp]
def I6{ns:List aA}{bs:List Int}{os:List (D aB)}{ps:List Pt}(h:ns.length=os.length)(h':bs.length=os.length)(hp:(kO (cM os,ps)).2.isNil=φ):ma ns bs os ps=(eD ns bs (kO (cM os,ps)).1 os.length,.nil):=by
 unfold ma;rw[ε (by rintro(e|e);exact e h;exact e h'),ε (by rw[hp];decide)]
def O9(ns:List aA)(bs:List Int)(os:List (D aB))(ps:List Pt):Told (ma ns bs os ps).2:=by
 unfold ma;split
 ·rfl
 ·split
  ·exact aer _
  ·rfl
def cR(rd:Rd)(root:aA):List (D bS)×Int:=
 if ¬(bC rd root).2.2.2.2=0 then([],(bC rd root).2.2.2.2)
 else((ma (bC rd root).1 (bC rd root).2.2.1 (bC rd root).2.1 (bC rd root).2.2.2.1).1,jB (ma (bC rd root).1 (bC rd root).2.2.1 (bC rd root).2.1 (bC rd root).2.2.2.1).2)
def jn.put{rd:Rd}{root:aA}{ns:List aA}{os:List (D aB)}{bs:List Int}{ps:List Pt}(h:jn rd root ns os bs ps):kO (cM os,ps)=(ia (cM os) ps,.nil):=x9 h.okp
def jn.lay{rd:Rd}{root:aA}{ns:List aA}{os:List (D aB)}{bs:List Int}{ps:List Pt}(h:jn rd root ns os bs ps):ma ns bs os ps=(eD ns bs (ia (cM os) ps) os.length,.nil):=by
 rw[I6 h.sc.len.symm h.bl (by rw[h.put];rfl),h.put]
def vS{rd:Rd}{root:aA}(h:¬(bC rd root).2.2.2.2=0):cR rd root=([],(bC rd root).2.2.2.2):=by unfold cR;rw[π h]
def I7{rd:Rd}{root:aA}{ns:List aA}{os:List (D aB)}{bs:List Int}{ps:List Pt}(e:bC rd root=(ns,os,bs,ps,0))(h:jn rd root ns os bs ps):cR rd root=(eD ns bs (ia (cM os) ps) os.length,0):=by
 unfold cR;rw[e,ε ς,h.lay];rfl
def uN{rd:Rd}(ok:gG rd)(root:aA):(∃f,0<f/\bC rd root=([],[],[],[],f)/\cR rd root=([],f))\/
  (∃ns os bs ps,bC rd root=(ns,os,bs,ps,0)/\jn rd root ns os bs ps/\cR rd root=(eD ns bs (ia (cM os) ps) os.length,0)):=by
 rcases pX ok root with⟨f,hf,e⟩|⟨ns,os,bs,ps,e,h⟩
 ·exact .inl ⟨f,hf,e,by rw[vS (by rw[e];simp only;omega),e]⟩
 ·exact .inr ⟨ns,os,bs,ps,e,h,I7 e h⟩
def jn.row{rd:Rd}{root:aA}{ns:List aA}{os:List (D aB)}{bs:List Int}{ps:List Pt}(h:jn rd root ns os bs ps){i:Nat}(hi:i<os.length):nth jh (ia (cM os) ps) i=nB (nth aB os i).2.1 i ps:=by
 have:=aea (w:=cM os) (l:=ps) (i:=i) (by rw[oK];exact hi) h.okp;rw[h.put,qx hi]at this;exact this
def jn.ajc{rd:Rd}{root:aA}{ns:List aA}{os:List (D aB)}{bs:List Int}{ps:List Pt}(h:jn rd root ns os bs ps){i:Nat}(hi:i<os.length):(nth jh (ia (cM os) ps) i).length=(nth aB os i).2.1.length:=by
 rw[wE,qx hi]
def jn.sum{rd:Rd}{root:aA}{ns:List aA}{os:List (D aB)}{bs:List Int}{ps:List Pt}(h:jn rd root ns os bs ps) :
  (∀j,j<os.length->1<=(nth aB os j).2.1.length/\(nth aB os j).2.1.length<=40)/\kV (bX os) os.length<=256/\∀i,i<os.length->(nth (.int .i64) bs i:Int)=kV (bX os) i:=by
 have hb:(cF (bX os,[])).2.isNil=φ:=by rw[h.eb];rfl
 have hn:(cF (bX os,[])).1=bs:=by rw[h.eb]
 obtain⟨_,h2,h3,h4⟩:=aab hb;rw[hn]at h4;have hl:=qw os;refine⟨fun j hj =>?_,by rw[hl]at h3;exact h3,fun i hi=>h4 i ω⟩;have:=h2 j ω;rw[G2 hj]at this;exact⟨Int.ofNat_le.1 this.1,Int.ofNat_le.1 this.2⟩
def inP(p:D bS)(a:Int):Prop:=(p.2.1:Int)<=a/\a<(p.2.1:Int)+(p.2.2.1.length:Int)
instance(p:D bS)(a:Int):Decidable (inP p a):=inferInstanceAs (Decidable (_/\_))
def Cb{rd:Rd}(ok:gG rd){root:aA}(h:(aX rd root).2.2=0):(aX rd root).2.1.length<=6:=by
 have:=(zY ok h).le;have:=(zY ok h).len;omega
def G5{rd:Rd}(ok:gG rd){root:aA}(h:(aX rd root).2.2=0):lX (aX rd root).2.1:=(zY ok h).aes ok
def aho{l:List (D aB)}(h:l.length<=1000/\∀i,i<l.length->(nth aB l i).2.1.length<=1000) :
  (cM l).length<=100000/\∀i,i<(cM l).length->(nth jh (cM l) i).length<=100000000:=by
 refine⟨by rw[oK];omega,fun i hi =>?_⟩;rw[oK]at hi;rw[qx hi];have:=h.2 i hi;omega
def G6{rd:Rd}(ok:gG rd){root:aA}{ns:List aA}{os:List (D aB)}(h:Scope rd root ns os):os.length<=1000/\∀i,i<os.length->(nth aB os i).2.1.length<=1000:=by
 refine⟨by have:=h.le;have:=h.len;omega,fun i hi =>?_⟩;exact cz (h.obj ok hi).Z2 δ
def Pa{rd:Rd}(ok:gG rd){root:aA}(h:(bC rd root).2.2.2.2=0) :
  (bC rd root).2.1.length<=1000/\∀i,i<(bC rd root).2.1.length->(nth aB (bC rd root).2.1 i).2.1.length<=1000:=by
 rcases pX ok root with⟨f,hf,e⟩|⟨ns,os,bs,ps,e,hr⟩
 ·rw[e]at h;simp at h;omega
 ·rw[e];exact G6 ok hr.sc
def aeu{rd:Rd}{root:aA}(h:(bC rd root).2.2.2.2=0) :
  ((ma (bC rd root).1 (bC rd root).2.2.1 (bC rd root).2.1 (bC rd root).2.2.2.1).1,(ma (bC rd root).1 (bC rd root).2.2.1 (bC rd root).2.1 (bC rd root).2.2.2.1).2,())=
   ((cR rd root).1,aP (cR rd root).2,()):=by
 unfold cR;rw[ε (not_not_intro h)];simp only[uM (O9 _ _ _ _)]
def fD{f:Int}(h:(aP f).isNil=ψ):¬f=0:=fun e=>by rw[aZ.2 e]at h;cases h
def aev(x:List (D aB)×List Int):aP (jB (eX x).2)=(eX x).2:=uM (Fe x)
def nD{α:Type}{l:List α}{i:Nat}(h:¬i<l.length):l.take i=l:=bt ω
def Pb{rd:Rd}{root:aA}(h:¬(aX rd root).2.2=0):(([]:List (D bS)),([]:List Pt),(aX rd root).2.2,())=((cR rd root).1,(bC rd root).2.2.2.1,(cR rd root).2,()):=by
 have e:=vQ h;rw[vS (by rw[e];exact h),e]
def Pc{rd:Rd}{root:aA}(h:(aX rd root).2.2=0)(hn:jB (cF (bX (aX rd root).2.1,[])).2 > 0) :
  (([]:List (D bS)),([]:List Pt),jB (cF (bX (aX rd root).2.1,[])).2,())=((cR rd root).1,(bC rd root).2.2.2.1,(cR rd root).2,()):=by
 have h1:(cF (bX (aX rd root).2.1,[])).2.isNil=ψ:=by
  cases e:(cF (bX (aX rd root).2.1,[])).2 <;> first|rfl|(rw[e]at hn;exact absurd hn δ)
 have e:=vR h h1;rw[vS (by rw[e];show ¬jB _=0;omega),e]
def W9{rd:Rd}{root:aA}(h:(aX rd root).2.2=0)(h1:(cF (bX (aX rd root).2.1,[])).2.isNil=φ)
  (hn:jB (eX ((aX rd root).2.1,(cF (bX (aX rd root).2.1,[])).1)).2 > 0) :
  (([]:List (D bS)),([]:List Pt),jB (eX ((aX rd root).2.1,(cF (bX (aX rd root).2.1,[])).1)).2,())=((cR rd root).1,(bC rd root).2.2.2.1,(cR rd root).2,()):=by
 have h2:(eX ((aX rd root).2.1,(cF (bX (aX rd root).2.1,[])).1)).2.isNil=ψ:=by
  cases e:(eX ((aX rd root).2.1,(cF (bX (aX rd root).2.1,[])).1)).2 <;> first|rfl|(rw[e]at hn;exact absurd hn δ)
 have e:=z1 h h1 h2;rw[vS (by rw[e];show ¬jB _=0;omega),e]
def Pd{e:aR}(ht:Told e)(h:jB e<=0):e.isNil=φ:=by
 cases hb:e.isNil with
 |true=>rfl
 |false=>have:=Fs ht hb;omega
def ye{rd:Rd}(ok:gG rd){root:aA}(h:(aX rd root).2.2=0)(h1:jB (cF (bX (aX rd root).2.1,[])).2<=0)
  (h2:jB (eX ((aX rd root).2.1,(cF (bX (aX rd root).2.1,[])).1)).2<=0) :
  jn rd root (aX rd root).1 (aX rd root).2.1 (cF (bX (aX rd root).2.1,[])).1 (eX ((aX rd root).2.1,(cF (bX (aX rd root).2.1,[])).1)).1/\
  bC rd root=((aX rd root).1,(aX rd root).2.1,(cF (bX (aX rd root).2.1,[])).1,(eX ((aX rd root).2.1,(cF (bX (aX rd root).2.1,[])).1)).1,0):=by
 have e:=xy h (Pd (uL _) h1) (Pd (Fe _) h2);rcases pX ok root with⟨f,hf,e'⟩|⟨ns,os,bs,ps,e',hr⟩
 ·rw[e']at e;have:=congrArg (fun x:Rk=>x.2.2.2.2) e;simp only at this;omega
 ·rw[e']at e
  have a:=congrArg (fun x:Rk=>x.1) e;have b:=congrArg (fun x:Rk=>x.2.1) e;have c:=congrArg (fun x:Rk=>x.2.2.1) e;have d:=congrArg (fun x:Rk=>x.2.2.2.1) e;simp only at a b c d;rw[a,b,c,d]at hr e';exact⟨hr,e'⟩
def SG{rd:Rd}{root:aA}{ns:List aA}{os:List (D aB)}{bs:List Int}{ps:List Pt}(h:jn rd root ns os bs ps)(e:bC rd root=(ns,os,bs,ps,0)) :
  (eD ns bs (ia (cM os) ps) os.length,ps,(0:Int),())=((cR rd root).1,(bC rd root).2.2.2.1,(cR rd root).2,()):=by
 rw[I7 e h,e]
def Xa{rd:Rd}{root:aA}{ns:List aA}{os:List (D aB)}{bs:List Int}{ps:List Pt}(h:jn rd root ns os bs ps){i:Nat}(hi:i<os.length){r:List Int}(hr:r=nB (nth aB os i).2.1 i ps) :
  eD ns bs (ia (cM os) ps) i++[(nth .str ns i,nth (.int .i64) bs i,r,())]=eD ns bs (ia (cM os) ps) (i+1):=by
 rw[xz,h.row hi,hr]
def aew{rd:Rd}{root:aA}{ns:List aA}{os:List (D aB)}{bs:List Int}{ps:List Pt}(h:jn rd root ns os bs ps){i k:Nat}(hk:k<ps.length)(e:(nth aQ ps k).1=(i:Int))(hi:i<os.length) :
  (0:Int)<=(nth aQ ps k).2.1/\(nth aQ ps k).2.1<((nB (nth aB os i).2.1 i (ps.take k)).length:Int):=by
 have hp:=h.okp k hk;rw[DR];refine⟨hp.2.2.1,?_⟩;have:=hp.2.2.2;rw[e,dx,qx hi]at this;exact this
abbrev agH:=Unit×List aA×List Int×List (D aT)×List (D aV)×(Bool×Unit)×Unit
def aex(x:agH):D aB:=(x.2.1,x.2.2.1,x.2.2.2.1,x.2.2.2.2.1,())
def pdL(p:D aB×Bool):agH:=((),p.1.1,p.1.2.1,p.1.2.2.1,p.1.2.2.2.1,(p.2,()),())
def Pe(s p:aA):(a8 s p).length<=s.length:=by unfold a8;split <;> simp
def UK{s:aA}{w:List aA}(hw:w=parts 32 (a8 s eY))(i:Nat):(nth .str w i).length<=s.length:=by
 by_cases h:i<w.length
 ·have h1:=eG (t:=.str) h
  rw[hw]at h1;have:=oI _ _ _ h1;rw[<-hw]at this;exact cz this (Pe _ _)
 ·unfold nth;rw[List.getD_eq_getElem?_getD,List.getElem?_eq_none ω];exact ao _
def aey{s:aA}{w:List aA}(hw:w=parts 32 (a8 s eY)):0<w.length:=by rw[hw];exact dp.2 (ri _ _)
def eH{c:Bool}{P:Prop}(q:c=φ↔P)(h:c=ψ):¬P:=fun p=>by rw[q.2 p]at h;cases h
section
variable{o:D aB}{b:Bool}{s:aA}{w:List aA}(hw:w=parts 32 (a8 s eY))
include hw
def Xb(h:nth .str w 0=iK/\w.length=2):iU o b s=(n8 o (nth .str w 1),b):=by
 unfold iU;simp only;rw[<-hw,π h]
def Xc(h0:¬(nth .str w 0=iK/\w.length=2))(h:nth .str w 0=iv/\w.length=2):iU o b s=(n9 o (dG (nth .str w 1)).1,b || (dO (nth .str w 1)).isNone):=by
 unfold iU;simp only;rw[<-hw,ε h0,π h]
def aae(h0:¬(nth .str w 0=iK/\w.length=2))(h1:¬(nth .str w 0=iv/\w.length=2))(h:nth .str w 0=gw/\w.length=3) :
  iU o b s=(sb o (nth .str w 1,(dG (nth .str w 2)).1,ay s eY,()),b || (dO (nth .str w 2)).isNone):=by
 unfold iU;simp only;rw[<-hw,ε h0,ε h1,π h]
def Xd(h0:¬(nth .str w 0=iK/\w.length=2))(h1:¬(nth .str w 0=iv/\w.length=2))(h2:¬(nth .str w 0=gw/\w.length=3))(h:nth .str w 0=kU/\w.length=3) :
  iU o b s=(lZ o ((dG (nth .str w 1)).1,1,(dG (nth .str w 2)).1,[],ψ,()),(b || (dO (nth .str w 1)).isNone) || (dO (nth .str w 2)).isNone):=by
 unfold iU;simp only;rw[<-hw,ε h0,ε h1,ε h2,π h]
def KJ(h0:¬(nth .str w 0=iK/\w.length=2))(h1:¬(nth .str w 0=iv/\w.length=2))(h2:¬(nth .str w 0=gw/\w.length=3))(h3:¬(nth .str w 0=kU/\w.length=3))
  (h:(nth .str w 0=iZ\/nth .str w 0=jP)/\w.length=4){k:Int}(hk:k=if nth .str w 0=jP then 3 else 2) :
  iU o b s=(lZ o ((dG (nth .str w 1)).1,k,(dG (nth .str w 2)).1,nth .str w 3,ay s eY,()),(b || (dO (nth .str w 1)).isNone) || (dO (nth .str w 2)).isNone):=by
 unfold iU;simp only;rw[<-hw,ε h0,ε h1,ε h2,ε h3,π h,hk]
def Xe(h0:¬(nth .str w 0=iK/\w.length=2))(h1:¬(nth .str w 0=iv/\w.length=2))(h2:¬(nth .str w 0=gw/\w.length=3))(h3:¬(nth .str w 0=kU/\w.length=3))
  (h:¬((nth .str w 0=iZ\/nth .str w 0=jP)/\w.length=4)):iU o b s=(o,φ):=by
 unfold iU;simp only;rw[<-hw,ε h0,ε h1,ε h2,ε h3,ε h]
end
structure kA (c:UInt8) (s:aA) (i:Nat) (L:List aA) (x:aA):Prop where
 le:i<=s.length
 eq:n7 c L++x=s.take i
 free:∀y∈L,c∉y
 fx:c∉x
 len:L.length<=i
 lx:x.length<=i
def kA.zero(c:UInt8)(s:aA):kA c s 0 [] []:=⟨ao _,rfl,ς,ς,ς,ς⟩
def ua{s:aA}{i:Nat}(h:i<s.length):s.take (i+1)=s.take i++[bV s i]:=by
 rw[cr,BB h];rfl
def kA.cut{c:UInt8}{s:aA}{i:Nat}{L:List aA}{x:aA}(h:kA c s i L x)(hi:i<s.length)(e:bV s i=c):kA c s (i+1) (L++[x]) []:=by
 refine⟨hi,?_,fun y hy =>?_,ς,by have:=h.len;simp;omega,ς⟩
 ·rw[ua hi,<-h.eq,e,Kk];simp
 ·rcases ba.1 hy with hy|hy
  ·exact h.free y hy
  ·simp at hy;subst hy;exact h.fx
def kA.more{c:UInt8}{s:aA}{i:Nat}{L:List aA}{x:aA}(h:kA c s i L x)(hi:i<s.length)(e:¬bV s i=c):kA c s (i+1) L (x++[bV s i]):=by
 refine⟨hi,?_,h.free,?_,by have:=h.len;omega,by have:=h.lx;simp;omega⟩
 ·rw[ua hi,<-h.eq];simp
 ·intro hc
  rcases ba.1 hc with hc|hc
  ·exact h.fx hc
  ·simp at hc;exact e hc.symm
def kA.done{c:UInt8}{s:aA}{i:Nat}{L:List aA}{x:aA}(h:kA c s i L x)(hi:¬i<s.length):L++[x]=parts c s:=by
 have e:=h.eq;rw[bt ω]at e;rw[<-e,zJ h.free h.fx]
structure kB (c:UInt8) (s:aA) (i:Nat) (L:List aA) (f:Nat):Prop where
 le:i<=s.length
 fi:f<=i
 eq:n7 c L=s.take f
 free:∀y∈L,c∉y
 gap:∀j,f<=j->j<i->¬bV s j=c
 len:L.length<=i
def kB.zero(c:UInt8)(s:aA):kB c s 0 [] 0:=⟨ao _,au _,rfl,ς,fun j h h'=>by omega,ς⟩
def G7{c:UInt8}{s:aA}{f i:Nat}(hi:i<=s.length)(h:∀j,f<=j->j<i->¬bV s j=c):c∉(s.take i).drop f:=by
 intro hc;obtain⟨k,hk,e⟩:=cw hc;rw[List.length_drop,bc]at hk;rw[List.getElem_drop,er]at e;refine h (f+k) ω ω ?_;rw[xJ (List.getElem?_eq_getElem (show f+k<s.length by omega))];exact e
def kB.cut{c:UInt8}{s:aA}{i:Nat}{L:List aA}{f:Nat}(h:kB c s i L f)(hi:i<s.length)(e:bV s i=c):kB c s (i+1) (L++[(s.take i).drop f]) (i+1):=by
 refine⟨hi,au _,?_,fun y hy =>?_,fun j h1 h2=>by omega,by have:=h.len;simp;omega⟩
 ·have hf:=h.fi
  rw[Kk,h.eq,ua hi,e];congr 1;have:=fc f (s.take i);rw[List.take_take,di hf]at this;exact this
 ·rcases ba.1 hy with hy|hy
  ·exact h.free y hy
  ·simp at hy;subst hy;exact G7 h.le h.gap
def kB.more{c:UInt8}{s:aA}{i:Nat}{L:List aA}{f:Nat}(h:kB c s i L f)(hi:i<s.length)(e:¬bV s i=c):kB c s (i+1) L f:=by
 refine⟨hi,by have:=h.fi;omega,h.eq,h.free,fun j h1 h2 =>?_,by have:=h.len;omega⟩;rcases br j i with hl|hl
 ·exact h.gap j h1 hl
 ·rw[show j=i by omega];exact e
def kB.done{s:aA}{i:Nat}{L:List aA}{f:Nat}(h:kB 10 s i L f)(hi:¬i<s.length):(L,(f == s.length))=xu s:=by
 have hle:=h.le;have e:i=s.length:=by omega
 have hx:(10:UInt8)∉s.drop f:=by
  have:=G7 h.le h.gap
  rwa [bt ω]at this
 rw[UG (x:=s.drop f) h.free hx (by rw[h.eq,fc])];congr 1;have:=h.fi;rw[dy];simp[List.drop_eq_nil_iff];omega
def aaf{s:aA}(h:0<s.length)(h2:bV s 0=45):dH s=s.drop 1/\(dH s).length<s.length:=by
 cases s with
 |nil=>simp at h
 |cons c r=>
  have:c=45:=h2;subst this;exact⟨rfl,by simp[dH]⟩
def KK{s:aA}(h:¬(0<s.length/\bV s 0=45)):dH s=s:=by
 cases s with
 |nil=>rfl
 |cons c r=>
  have:¬c=45:=fun e=>h ⟨ς,e⟩
  unfold dH;split
  ·rename_i e;cases e;exact absurd rfl this
  ·rfl
def KL{s:aA}(h:0<s.length):s.head?=ξ (bV s 0):=by
 cases s with
 |nil=>simp at h
 |cons c r=>rfl
def Xf{s:aA}(h:(dH s).length<1\/(dH s).length > 18):mK s=χ:=by
 unfold mK;rw[π];rcases h with h|h;exact .inl h;exact .inr (.inl h)
def Xg{s:aA}(h:0<(dH s).length)(h1:bV (dH s) 0=48)(h2:1<s.length):mK s=χ:=by
 unfold mK;rw[π];exact .inr (.inr ⟨by rw[KL h,h1],h2⟩)
def ahp{s:aA}(h:¬(dH s).length<1)(h':¬(dH s).length > 18)(h2:¬(bV (dH s) 0=48/\1<s.length)) :
  mK s=if(dH s).all lD=φ then ξ (if(dH s).length<s.length then -(jU (dH s):Int)else(jU (dH s):Int))else χ:=by
 unfold mK;rw[ε];rintro(e|e|⟨e,e'⟩)
 ·exact h e
 ·exact h' e
 ·rw[KL ω]at e
  exact h2 ⟨dh e,e'⟩
def aje{s:aA}{p:UInt8->Bool}{i:Nat}(h:i<s.length)(hn:p (bV s i)=ψ):s.all p=ψ:=by
 rw[df];exact⟨bV s i,cf (BB h),by rw[hn];decide⟩
def ajf{s:aA}{p:UInt8->Bool}(h:∀j,j<s.length->p (bV s j)=φ):s.all p=φ:=by
 rw[bk];intro x hx;obtain⟨i,hi,rfl⟩:=cw hx;have:=h i hi
 rwa [xJ (List.getElem?_eq_getElem hi)]at this
def aag{s:aA}{i:Nat}(h:i<s.length):jU (s.take (i+1))=10*jU (s.take i)+((bV s i).toNat-48):=by rw[ua h,wK]
def qC(s:aA):Int×Bool:=(match mK s with|some n=>n|none=>0,(mK s).isSome)
def jV(s:aA):Int:=(qC s).1
def mL(s:aA):Bool:=(qC s).2
def pn(s:aA):List aA:=(xu s).1
def Ft(s:aA):Bool:=(xu s).2
def Cc{s:aA}(h:mK s=χ):((0:Int),ψ)=qC s:=by unfold qC;rw[h];rfl
def Cd{s:aA}{n:Int}(h:mK s=ξ n):(n,φ)=qC s:=by unfold qC;rw[h];rfl
def G8{s:aA}(h0:(s.length:Int) > 0)(h1:((bV s 0).toNat:Int)=45):dH s=ai 1 (af (bq s) s):=by
 rw[(aaf ω (dz.1 (by rw[c6.1 (show((bV s 0).toNat:Int)=(45:Nat)from h1)];rfl))).1,ck]
def G9{s:aA}(h1:¬((bV s 0).toNat:Int)=45):dH s=s:=KK fun h=>h1 (by rw[h.2];rfl)
def Ha{s:aA}(h0:(s.length:Int)<=0):dH s=s:=KK fun h=>by omega
def aez{s t:aA}(hm:dH s=t)(h:t.length<1\/t.length > 18):((0:Int),ψ)=qC s:=Cc (Xf (by rw[hm];exact h))
def aah{s t:aA}(hm:dH s=t)(h:0<t.length)(h1:((bV t 0).toNat:Int)=48)(h2:1<s.length):((0:Int),ψ)=qC s:=
 Cc (Xg (by rw[hm];exact h) (by rw[hm];exact dz.1 (by rw[c6.1 (show((bV t 0).toNat:Int)=(48:Nat)from h1)];rfl)) h2)
def aeA{s t:aA}(hm:dH s=t){i:Nat}(hi:i<t.length)(h:((bV t i).toNat:Int)<48\/((bV t i).toNat:Int) > 57):((0:Int),ψ)=qC s:=by
 refine Cc ?_;have:(dH s).all lD=ψ:=by
  rw[hm];exact aje hi (by unfold lD;simp;omega)
 unfold mK;split
 ·rfl
 ·rw[ε (by rw[this];decide)]
def aeB{c:UInt8}(h:(48:Int)<=(c.toNat:Int))(h':(c.toNat:Int)<=57):lD c=φ:=by unfold lD;simp;omega
def D1{s:aA}{i:Nat}(h:i<s.length)(h18:s.length<=18)(hd:∀j,j<i->lD (bV s j)=φ):jU (s.take i)<100000000000000000:=by
 refine eo (UA i _ (by simp;omega) fun c hc =>?_) (cz (ep δ (show i<=17 by omega)) δ);obtain⟨k,hk,rfl⟩:=cw hc;rw[bc]at hk;have:=hd k ω;rw[er];rw[xJ (List.getElem?_eq_getElem (show k<s.length by omega))]at this;simpa[lD]using this
def Pf{s t:aA}(hm:dH s=t){i:Nat}(hi:i<t.length)(h:(48:Int)<=((bV t i).toNat:Int))(h':((bV t i).toNat:Int)<=57){x1 x2:Int}(q1:x1=10*(jU (af i (dH s)):Int))
  (q2:x2=aw c7 (((bV t i).toNat:Int)-48)):x1+x2=(jU (af (i+1) (dH s)):Int)/\0<=x2/\x2<=9:=by
 have hw:aw c7 (((bV t i).toNat:Int)-48)=((bV t i).toNat:Int)-48:=by simp[aw,b5,b6];omega
 rw[hw]at q2;rw[hm]at q1 ⊢;rw[aag hi];omega
def Pg{s t:aA}(hm:dH s=t)(h1:¬t.length<1)(h18:t.length<=18)(h0:((bV t 0).toNat:Int)=48->¬1<s.length){i:Nat}(hi:¬i<t.length)(hd:∀j,j<i->lD (bV (dH s) j)=φ) :
  mK s=ξ (if t.length<s.length then -(jU (af i (dH s)):Int)else(jU (af i (dH s)):Int)):=by
 subst hm;rw[ahp h1 ω (fun h=>h0 (by rw[h.1];rfl) h.2),π (ajf fun j hj=>hd j ω),bt ω]
def aeC{s t:aA}(hm:dH s=t)(h1:¬t.length<1)(h18:t.length<=18)(h0:((bV t 0).toNat:Int)=48->¬1<s.length){i:Nat}(hi:¬i<t.length)(hd:∀j,j<i->lD (bV (dH s) j)=φ)(hl:t.length<s.length) :
  ((0:Int)-(jU (af i (dH s)):Int),φ)=qC s:=by
 have:=Pg hm h1 h18 h0 hi hd;rw[π hl]at this;rw[<-Cd this,Int.zero_sub]
def aeD{s t:aA}(hm:dH s=t)(h1:¬t.length<1)(h18:t.length<=18)(h0:((bV t 0).toNat:Int)=48->¬1<s.length){i:Nat}(hi:¬i<t.length)(hd:∀j,j<i->lD (bV (dH s) j)=φ)(hl:¬t.length<s.length) :
  ((jU (af i (dH s)):Int),φ)=qC s:=by
 have:=Pg hm h1 h18 h0 hi hd;rw[ε hl]at this;rw[<-Cd this]
def Hb{s:aA}{i:Nat}(h:i<s.length):ai i (af (az ((i:Int)+1)) s)=[bV s i]:=by
 rw[show az ((i:Int)+1)=i+1 by omega,ua h,List.drop_append_of_le_length (by simp;omega),bm (by simp;omega)];rfl
def UL{c d:UInt8}{n:Nat}(h:(c.toNat:Int)=n)(hd:d.toNat=n):c=d:=dz.1 ω
def UM{c d:UInt8}{n:Nat}(h:¬(c.toNat:Int)=n)(hd:d.toNat=n):¬c=d:=fun e=>h (by rw[e];omega)
def sf(s:aA):D aB×aR:=((bY s).1,aP (bY s).2)
def Xh{s:aA}(h:s.length > 1200):(cD aB,aR.no 2)=sf s:=by unfold sf;rw[B7 h];rfl
def od.run{L:List aA}{i:Nat}{o:D aB}{b:Bool}(h:od L i o b)(hi:¬i<L.length):(run sd (cD aB) L=ξ o/\b=ψ)\/(run sd (cD aB) L=χ/\b=φ):=by
 have:=h.st
 rwa [bt ω]at this
def Ce{s:aA}{i:Nat}{o:D aB}{b:Bool}(h:od (parts 10 (ae s [10])) i o b)(hi:¬i<(parts 10 (ae s [10])).length)(hl:¬s.length > 1200)
  (hb:b=φ\/(np o).2.isNil=ψ\/¬(np o).1=s):(cD aB,aR.no 4)=sf s:=by
 have:bY s=(cD aB,4):=by
  rcases h.run hi with⟨hr,h0⟩|⟨hr,h0⟩
  ·rcases hb with hb|hb|hb
   ·rw[hb]at h0;cases h0
   ·refine GZ hl hr fun hf ht =>?_
    rw[zO hf rfl (by show(fV o).length<=1200;rw[ht];omega)]at hb;cases hb
   ·refine GZ hl hr fun hf ht=>hb ?_
    rw[zO hf rfl (by show(fV o).length<=1200;rw[ht];omega)];exact ht
  ·exact WY hl hr
 unfold sf;rw[this];rfl
def aeE{s:aA}{o:D aB}(hl:¬s.length > 1200)
  (hn:(np o).2.isNil=φ)(ht:(np o).1=s):(o,aR.nil)=sf s:=by
 have hf:cQ o=0:=by
  apply aq;intro hf;rw[KB hf]at hn;exact hf (aZ.1 hn)
 have hs:fV o=s:=by
  by_cases h:(fV o).length > 1200
  ·rw[GU hf rfl h]at hn;cases hn
  ·rw[zO hf rfl (by show(fV o).length<=1200;omega)]at ht;exact ht
 unfold sf;rw[C8 hl hf hs];rfl
def C9(s p:aA):(ae s p).length<=s.length:=by unfold ae;split <;> simp
def aai(s:aA)(h:s.length<=1200):(parts 10 (ae s [10])).length<=1201:=by
 have h1:=tY 10 (ae s [10]);have h2:(ae s [10]).length<=s.length:=by unfold ae;split <;> simp
 omega
def Xi{s:aA}(h:s.length<=1200)(i:Nat):(nth .str (parts 10 (ae s [10])) i).length<=1200:=by
 by_cases hi:i<(parts 10 (ae s [10])).length
 ·have:=oI _ _ _ (eG (t:=.str) hi)
  have h2:(ae s [10]).length<=s.length:=by unfold ae;split <;> simp
  omega
 ·unfold nth;rw[List.getD_eq_getElem?_getD,List.getElem?_eq_none ω];exact ao _
structure nE (L:List aA) (i:Nat) (o:D aB):Prop where
 le:i<=L.length
 st:run mC (cD aB) (L.take i)=ξ o
 l1:o.1.length<=i
 l2:o.2.1.length<=i
 l3:o.2.2.1.length<=i
 l4:o.2.2.2.1.length<=i
def nE.zero(L:List aA):nE L 0 (cD aB):=⟨ao _,rfl,au _,au _,au _,au _⟩
structure rm (o p:D aB):Prop where
 l1:p.1.length<=o.1.length+1
 l2:p.2.1.length<=o.2.1.length+1
 l3:p.2.2.1.length<=o.2.2.1.length+1
 l4:p.2.2.2.1.length<=o.2.2.2.1.length+1
def Da{α:Type}(l:List α)(x:α):(l++[x]).length<=l.length+1:=by simp
def rm.vO(o:D aB)(s:aA):rm o (n8 o s):=⟨Da _ _,bb _,bb _,bb _⟩
def rm.word(o:D aB)(n:Int):rm o (n9 o n):=⟨bb _,Da _ _,bb _,bb _⟩
def rm.sym(o:D aB)(y:D aT):rm o (sb o y):=⟨bb _,bb _,Da _ _,bb _⟩
def rm.tie(o:D aB)(t:D aV):rm o (lZ o t):=⟨bb _,bb _,bb _,Da _ _⟩
def nE.next{L:List aA}{i:Nat}{o p:D aB}(h:nE L i o)(hi:i<L.length)(hl:mC o (nth .str L i)=ξ p)(hm:rm o p):nE L (i+1) p:=by
 have a1:=h.l1;have a2:=h.l2;have a3:=h.l3;have a4:=h.l4;have b1:=hm.l1;have b2:=hm.l2;have b3:=hm.l3;have b4:=hm.l4;refine⟨hi,?_,ω,ω,ω,ω⟩;rw[fJ (t:=.str) hi,Fk,h.st,e9];exact hl
def nE.fail{L:List aA}{i:Nat}{o:D aB}(h:nE L i o)(hi:i<L.length)(hl:mC o (nth .str L i)=χ):run mC (cD aB) L=χ:=by
 have:=yc (m:=L.drop i) h.st;rw[fc,jl (t:=.str) hi]at this;rw[this];simp only[run];rw[hl]
def nE.done{L:List aA}{i:Nat}{o:D aB}(h:nE L i o)(hi:¬i<L.length):run mC (cD aB) L=ξ o:=by
 have:=h.st
 rwa [bt ω]at this
def aaj{w:List aA}(h:w.length=2):w=[nth .str w 0,nth .str w 1]:=by
 match w,h with
 |[a,b],_=>rfl
def Ph{w:List aA}(h:w.length=3):w=[nth .str w 0,nth .str w 1,nth .str w 2]:=by
 match w,h with
 |[a,b,c],_=>rfl
def UN{w:List aA}(h:w.length=4):w=[nth .str w 0,nth .str w 1,nth .str w 2,nth .str w 3]:=by
 match w,h with
 |[a,b,c,d],_=>rfl
def fB(w:List aA)(k:Nat):List Int:=(b7 (k-1)).map fun i=>pk (nth .str w (i+1))
def KM(w:List aA)(k:Nat):(fB w k).length=k-1:=by simp[fB]
def Hc{w:List aA}{k:Nat}(h:1<=k):fB w (k+1)=fB w k++[pk (nth .str w k)]:=by
 obtain⟨m,rfl⟩:∃m,k=m+1:=⟨k-1,ω⟩
 simp[fB,cx]
def ow{w:List aA}{k i:Nat}(h:i+1<k):(nth (.int .i64) (fB w k) i:Int)=pk (nth .str w (i+1)):=by
 apply gK;simp[fB,show i<k-1 by omega]
def ahq{s:aA}(h:mL s=φ):jV s=pk s:=by
 unfold mL qC at h;unfold jV qC pk;cases hn:mK s with
 |none=>rw[hn]at h;cases h
 |some n=>rfl
def aeF{s:aA}(h:mL s=ψ):(-1099511627776:Int)=pk s:=by
 unfold mL qC at h;unfold pk;cases hn:mK s with
 |none=>rfl
 |some n=>rw[hn]at h;cases h
def Pj{w:List aA}{k:Nat}(h:1<=k)(hn:mL (nth .str w k)=φ):fB w k++[jV (nth .str w k)]=fB w (k+1):=by rw[Hc h,ahq hn]
def KN{w:List aA}{k:Nat}(h:1<=k)(hn:mL (nth .str w k)=ψ):fB w k++[(-1099511627776:Int)]=fB w (k+1):=by rw[Hc h,<-aeF hn]
section
variable{o:D aB}{b:Bool}{w:List aA}{k:Nat}
def SH(h:w.length=2/\nth .str w 0=iK):jH o b w=ξ (n8 o (nth .str w 1)):=by
 rw[aaj h.1];show(if nth .str w 0=iK then _ else _)=_;rw[π h.2];rfl
def SI(h0:¬(w.length=2/\nth .str w 0=iK))(h:w.length=2/\nth .str w 0=iv)(hk:1<k):jH o b w=ξ (n9 o (nth (.int .i64) (fB w k) 0)):=by
 rw[ow ω,aaj h.1];show(if nth .str w 0=iK then _ else if nth .str w 0=iv then _ else _)=_;rw[ε fun e=>h0 ⟨h.1,e⟩,π h.2];rfl
def Xj(h:w.length=3/\nth .str w 0=gw)(hk:2<k):jH o b w=ξ (sb o (nth .str w 1,nth (.int .i64) (fB w k) 1,b,())):=by
 rw[ow ω,Ph h.1];show(if nth .str w 0=gw then _ else _)=_;rw[π h.2];rfl
def SJ(h0:¬(w.length=3/\nth .str w 0=gw))(h:w.length=3/\nth .str w 0=kU)(hk:2<k):jH o b w=ξ (lZ o (nth (.int .i64) (fB w k) 0,1,nth (.int .i64) (fB w k) 1,[],b,())):=by
 rw[ow ω,ow ω,Ph h.1];show(if nth .str w 0=gw then _ else if nth .str w 0=kU then _ else _)=_;rw[ε fun e=>h0 ⟨h.1,e⟩,π h.2];rfl
def Pk(h:w.length=4/\nth .str w 0=iZ)(hk:2<k):jH o b w=ξ (lZ o (nth (.int .i64) (fB w k) 0,2,nth (.int .i64) (fB w k) 1,nth .str w 3,b,())):=by
 rw[ow ω,ow ω,UN h.1];show(if nth .str w 0=iZ then _ else _)=_;rw[π h.2];rfl
def SK(h0:¬(w.length=4/\nth .str w 0=iZ))(h:w.length=4/\nth .str w 0=jP)(hk:2<k):jH o b w=ξ (lZ o (nth (.int .i64) (fB w k) 0,3,nth (.int .i64) (fB w k) 1,nth .str w 3,b,())):=by
 rw[ow ω,ow ω,UN h.1];show(if nth .str w 0=iZ then _ else if nth .str w 0=jP then _ else _)=_;rw[ε fun e=>h0 ⟨h.1,e⟩,π h.2];rfl
def SL(h0:¬(w.length=2/\nth .str w 0=iK))(h1:¬(w.length=2/\nth .str w 0=iv))(h2:¬(w.length=3/\nth .str w 0=gw))(h3:¬(w.length=3/\nth .str w 0=kU))
  (h4:¬(w.length=4/\nth .str w 0=iZ))(h5:¬(w.length=4/\nth .str w 0=jP)):jH o b w=χ:=by
 match w with
 |[]=>rfl
 |[_]=>rfl
 |[a,x]=>show(if a=iK then _ else if a=iv then _ else _)=_;rw[ε (show ¬a=iK from fun e=>h0 ⟨rfl,e⟩),ε (show ¬a=iv from fun e=>h1 ⟨rfl,e⟩)]
 |[a,x,y]=>show(if a=gw then _ else if a=kU then _ else _)=_;rw[ε (show ¬a=gw from fun e=>h2 ⟨rfl,e⟩),ε (show ¬a=kU from fun e=>h3 ⟨rfl,e⟩)]
 |[a,x,y,z]=>show(if a=iZ then _ else if a=jP then _ else _)=_;rw[ε (show ¬a=iZ from fun e=>h4 ⟨rfl,e⟩),ε (show ¬a=jP from fun e=>h5 ⟨rfl,e⟩)]
 |_ :: _ :: _ :: _ :: _ :: _=>rfl
end
def UO{s:aA}{x:List aA}(hx:x=parts 32 s):C6 x=(nth .str x 0 == qq):=by
 have:=ri 32 s;rw[<-hx]at this;unfold C6
 match x,this with
 |a :: r,_=>rw[dy];simp[nth]
def aak{o:D aB}{s:aA}{x w:List aA}(hx:x=parts 32 s)(h:nth .str x 0=qq)(hw:w=x.drop 1):mC o s=jH o (nth .str x 0 == qq) w:=by
 unfold mC GW;rw[<-hx,UO hx,h,hw];rfl
def aeG{o:D aB}{s:aA}{x:List aA}(hx:x=parts 32 s)(h:¬nth .str x 0=qq):mC o s=jH o (nth .str x 0 == qq) x:=by
 have:(nth .str x 0 == qq)=ψ:=by simpa using h
 unfold mC GW;rw[<-hx,UO hx,this];rfl
def jT{w:List aA}{n:Nat}{m:Int}{a:aA}(h:(w.length:Int)=m)(hm:m=(n:Int)):(nth .str w 0 == a)=φ↔(w.length=n/\nth .str w 0=a):=by
 simp;omega
def jF{w:List aA}{n:Nat}{m:Int}{P:Prop}(h:¬(w.length:Int)=m)(hm:m=(n:Int)):ψ=φ↔(w.length=n/\P):=by
 constructor
 ·intro h;cases h
 ·rintro⟨h1,_⟩;omega
def eT{k n:Nat}(h:(k:Int)<(n:Int)):(ρ ((k:Int)<3))=φ↔((k:Int)<(n:Int)/\(k:Int)<3):=by
 rw[decide_eq_true_eq];omega
def eF{k n:Nat}(h:(n:Int)<=(k:Int)):ψ=φ↔((k:Int)<(n:Int)/\(k:Int)<3):=by
 constructor
 ·intro h;cases h
 ·intro h;omega
def z6{k n:Nat}(h:1<=k/\k<=3/\(k=1\/k<=n))(h':¬((k:Int)<(n:Int)/\(k:Int)<3)):(n=2->k=2)/\(3<=n->k=3):=by omega
def ajg{c:UInt8}{s:aA}{w:List aA}(h:w=parts c s):0<w.length:=by rw[h];exact dp.2 (ri c s)
def Xk{s:aA}{i:Nat}{o:D aB}(hl:¬s.length > 1200)(h:nE (pn s) i o)(hi:i<(pn s).length)(hn:mC o (nth .str (pn s) i)=χ):((cD aB,4):D aB×Int)=bY s:=
 (W0 hl (h.fail hi hn)).symm
def Cf{s:aA}{i:Nat}{o:D aB}(hl:¬s.length > 1200)(h:nE (pn s) i o)(hi:¬i<(pn s).length)
  (hb:cQ o > 0\/(nO o).2 > 0\/¬(nO o).1=s):((cD aB,4):D aB×Int)=bY s:=by
 refine(W4 hl (h.done hi) fun hf ht =>?_).symm;rcases hb with hb|hb|hb
 ·omega
 ·rw[zP rfl (by show(fV o).length<=1200;rw[ht];omega)]at hb;exact absurd hb ς
 ·rw[zP rfl (by show(fV o).length<=1200;rw[ht];omega)]at hb;exact hb ht
def Xl{s:aA}{o:D aB}(hl:¬s.length > 1200)(hf:cQ o<=0)(hn:(nO o).2<=0)(ht:(nO o).1=s):((o,0):D aB×Int)=bY s:=by
 have hf0:cQ o=0:=by have:=AM o;omega
 have hs:fV o=s:=by
  by_cases h:(fV o).length > 1200
  ·rw[GV rfl h]at hn;exact absurd hn δ
  ·rw[zP rfl (by show(fV o).length<=1200;omega)]at ht;exact ht
 exact(C8 hl hf0 hs).symm
def aal{s:aA}(h:s.length > 1200):((cD aB,2):D aB×Int)=bY s:=(B7 h).symm
def Xm{s:aA}(h:¬s.length > 1200)(hr:Ft s=ψ):((cD aB,4):D aB×Int)=bY s:=(Z7 h hr).symm
def aeH{s:aA}(h:s.length<=1200):(pn s).length<=1201:=by
 have:=tY 10 s;unfold pn xu;simp;omega
def Xn{s:aA}(h:s.length<=1200)(i:Nat):(nth .str (pn s) i).length<=1200:=by
 by_cases hi:i<(pn s).length
 ·have h1:=eG (t:=.str) hi
  have:=oI 10 s _ (List.dropLast_sublist _ |>.subset h1);omega
 ·unfold nth;rw[List.getD_eq_getElem?_getD,List.getElem?_eq_none ω];exact ao _
def gW(c:UInt8)(s:aA):0<(parts c s).length:=dp.2 (ri c s)
def cT(rd:Rd)(ns:List aA)(bs:List Int)(n:Nat):List (D aJ):=(b7 n).map fun i=>(nth .str ns i,(rd (nth .str ns i)).2.1,nth (.int .i64) bs i,())
def fE(rd:Rd)(ns:List aA)(bs:List Int)(n:Nat):(cT rd ns bs n).length=n:=by simp[cT]
def Cg(rd:Rd)(ns:List aA)(bs:List Int)(n:Nat):cT rd ns bs (n+1)=cT rd ns bs n++[(nth .str ns n,(rd (nth .str ns n)).2.1,nth (.int .i64) bs n,())]:=by simp[cT,cx]
def jX{rd:Rd}{ns:List aA}{bs:List Int}{n i:Nat}(h:i<n):nth aJ (cT rd ns bs n) i=(nth .str ns i,(rd (nth .str ns i)).2.1,nth (.int .i64) bs i,()):=by
 apply gK;simp[cT,h]
def dA(rd:Rd)(root:aA):D aC×Int:=
 if ¬(bC rd root).2.2.2.2=0 then(cD aC,(bC rd root).2.2.2.2)
 else((root,cT rd (bC rd root).1 (bC rd root).2.2.1 (bC rd root).1.length,(bC rd root).2.2.2.1,()),0)
def Fu{rd:Rd}{root:aA}(h:¬(bC rd root).2.2.2.2=0):dA rd root=(cD aC,(bC rd root).2.2.2.2):=by unfold dA;rw[π h]
def u6{rd:Rd}{root:aA}(h:(bC rd root).2.2.2.2=0):dA rd root=((root,cT rd (bC rd root).1 (bC rd root).2.2.1 (bC rd root).1.length,(bC rd root).2.2.2.1,()),0):=by
 unfold dA;rw[ε (not_not_intro h)]
def Xo{rd:Rd}(ok:gG rd)(root:aA):(∃f,0<f/\bC rd root=([],[],[],[],f)/\dA rd root=(cD aC,f))\/
  (∃ns os bs ps,bC rd root=(ns,os,bs,ps,0)/\jn rd root ns os bs ps/\dA rd root=((root,cT rd ns bs ns.length,ps,()),0)):=by
 rcases pX ok root with⟨f,hf,e⟩|⟨ns,os,bs,ps,e,h⟩
 ·exact .inl ⟨f,hf,e,by rw[Fu (by rw[e];simp only;omega),e]⟩
 ·exact .inr ⟨ns,os,bs,ps,e,h,by rw[u6 (by rw[e]),e]⟩
def gX(rd:Rd)(p:D aJ):Bool:=ρ ((rd p.1).2.2=0)&&ρ ((rd p.1).2.1=p.2.1)
def eN(rd:Rd)(e:D aC):Bool:=e.2.1.all (gX rd)&&ρ (0<e.2.1.length)
def z7{rd:Rd}{e:D aC}{i:Nat}(h:i<e.2.1.length)(hf:gX rd (nth aJ e.2.1 i)=ψ):eN rd e=ψ:=by
 unfold eN;have:e.2.1.all (gX rd)=ψ:=df.2 ⟨_,eG (t:=aJ) h,by rw[hf];decide⟩;rw[this];rfl
def Ch{rd:Rd}{e:D aC}(h:∀i,i<e.2.1.length->gX rd (nth aJ e.2.1 i)=φ):eN rd e=ρ (0<e.2.1.length):=by
 unfold eN;have:e.2.1.all (gX rd)=φ:=bk.2 fun x hx=>by
  obtain⟨i,hi,rfl⟩:=gO (t:=aJ) hx;exact h i hi
 rw[this];rfl
def KO{rd:Rd}{e:D aC}(h:eN rd e=φ):0<e.2.1.length/\∀i,i<e.2.1.length->(rd (nth aJ e.2.1 i).1).2.2=0/\(rd (nth aJ e.2.1 i).1).2.1=(nth aJ e.2.1 i).2.1:=by
 unfold eN at h;rw[av,bk,decide_eq_true_eq]at h;refine⟨h.2,fun i hi =>?_⟩;have:=h.1 _ (eG (t:=aJ) hi);unfold gX at this;rw[av,decide_eq_true_eq,decide_eq_true_eq]at this;exact this
def pz(rd:Rd):List (D aJ)->Int
 |[]=>0
 |p :: r=>if(bY (rd p.1).1).2=0 then pz rd r else(bY (rd p.1).1).2
def ie(rd:Rd)(l:List (D aJ)):List (D aB):=l.map fun p=>(bY (rd p.1).1).1
def il(l:List (D aJ)):List aA:=l.map fun p=>p.1
def im(l:List (D aJ)):List Int:=l.map fun p=>p.2.2.1
def Pl{rd:Rd}:∀{l:List (D aJ)} {i:Nat},(∀j,j<i->(bY (rd (nth aJ l j).1).1).2=0)->i<l.length->¬(bY (rd (nth aJ l i).1).1).2=0->pz rd l=(bY (rd (nth aJ l i).1).1).2
 |[],i,_,h,_=>by simp at h
 |p :: r,0,_,_,h=>by unfold pz;rw[ε (show ¬(bY (rd p.1).1).2=0 from h)];rfl
 |p :: r,i+1,h,h1,h2=>by
  unfold pz;rw[π (show(bY (rd p.1).1).2=0 from h 0 ω)];exact Pl (l:=r) (i:=i) (fun j hj=>h (j+1) ω) (by simpa using h1) h2
def z8{rd:Rd}:∀{l:List (D aJ)},(∀j,j<l.length->(bY (rd (nth aJ l j).1).1).2=0)->pz rd l=0
 |[],_=>rfl
 |p :: r,h=>by
  unfold pz;rw[π (show(bY (rd p.1).1).2=0 from h 0 ς)];exact z8 (l:=r) fun j hj=>h (j+1) (by simpa using hj)
def Pm(rd:Rd):∀l:List (D aJ),0<=pz rd l
 |[]=>ax _
 |p :: r=>by
  unfold pz;split
  ·exact Pm rd r
  ·exact xv _
def mM(rd:Rd)(e:D aC):List (D bS)×Int:=
 if eN rd e=ψ then([],10)
 else if ¬pz rd e.2.1=0 then([],pz rd e.2.1)
 else((ma (il e.2.1) (im e.2.1) (ie rd e.2.1) e.2.2.1).1,jB (ma (il e.2.1) (im e.2.1) (ie rd e.2.1) e.2.2.1).2)
def aam{rd:Rd}{e:D aC}(h:eN rd e=ψ):mM rd e=([],10):=by unfold mM;rw[π h]
def ahr{rd:Rd}{e:D aC}(h:eN rd e=φ){f:Int}(hb:pz rd e.2.1=f)(h0:¬f=0):mM rd e=([],f):=by
 unfold mM;rw[ε (by rw[h];decide),π (by rw[hb];exact h0),hb]
def aan{rd:Rd}{e:D aC}(h:eN rd e=φ)(hb:pz rd e.2.1=0) :
  mM rd e=((ma (il e.2.1) (im e.2.1) (ie rd e.2.1) e.2.2.1).1,jB (ma (il e.2.1) (im e.2.1) (ie rd e.2.1) e.2.2.1).2):=by
 unfold mM;rw[ε (by rw[h];decide),ε (not_not_intro hb)]
def lG{t:Ty}{a b:List (D t)}(hl:a.length=b.length)(h:∀i,i<a.length->nth t a i=nth t b i):a=b:=DP (t:=t) hl h
def Pn{rd:Rd}{ns:List aA}{bs:List Int}:il (cT rd ns bs ns.length)=ns:=by
 refine lG (t:=.str) (by simp[il,cT]) fun i hi =>?_
 have hi':i<ns.length:=by simpa[il,cT]using hi
 unfold il;rw[sX (u:=aJ) (t:=.str) (by rw[fE];exact hi'),jX hi']
def Po{rd:Rd}{ns:List aA}{bs:List Int}(h:bs.length=ns.length):im (cT rd ns bs ns.length)=bs:=by
 refine lG (t:=.int .i64) (by simp[im,cT,h]) fun i hi =>?_
 have hi':i<ns.length:=by simpa[im,cT]using hi
 unfold im;rw[sX (u:=aJ) (t:=.int .i64) (by rw[fE];exact hi'),jX hi']
def jn.fresh{rd:Rd}(ok:gG rd){root:aA}{ns:List aA}{os:List (D aB)}{bs:List Int}{ps:List Pt}(h:jn rd root ns os bs ps):eN rd (root,cT rd ns bs ns.length,ps,())=φ:=by
 rw[Ch]
 ·exact decide_eq_true (by show 0<(cT rd ns bs ns.length).length;rw[fE];exact h.sc.pos)
 ·intro i hi
  have hi:i<ns.length:=by have:i<(cT rd ns bs ns.length).length:=hi;rwa [fE]at this
  show gX rd (nth aJ (cT rd ns bs ns.length) i)=φ;rw[jX hi];unfold gX;rw[decide_eq_true (lE ok (h.sc.AO i hi).1).1,decide_eq_true rfl];rfl
def jn.aK{rd:Rd}{root:aA}{ns:List aA}{os:List (D aB)}{bs:List Int}{ps:List Pt}(h:jn rd root ns os bs ps){rd':Rd}(hs:∀s∈ns,(rd' s).1=(rd s).1):ie rd' (cT rd ns bs ns.length)=os:=by
 refine lG (t:=aB) (by simp[ie,cT,h.sc.len]) fun i hi =>?_
 have hi':i<ns.length:=by simpa[ie,cT]using hi
 unfold ie;rw[sX (u:=aJ) (t:=aB) (by rw[fE];exact hi'),jX hi',(h.sc.AO i hi').2];unfold lz;rw[hs _ (eG (t:=.str) hi')]
def jn.bad{rd:Rd}(ok:gG rd){root:aA}{ns:List aA}{os:List (D aB)}{bs:List Int}{ps:List Pt}(h:jn rd root ns os bs ps){rd':Rd}(hs:∀s∈ns,(rd' s).1=(rd s).1):pz rd' (cT rd ns bs ns.length)=0:=by
 refine z8 fun j hj =>?_
 rw[fE]at hj;rw[jX hj];simp only;rw[hs _ (eG (t:=.str) hj)];exact(lE ok (h.sc.AO j hj).1).2
def jn.use{rd:Rd}(ok:gG rd){root:aA}{ns:List aA}{os:List (D aB)}{bs:List Int}{ps:List Pt}(h:jn rd root ns os bs ps){rd':Rd}(hs:∀s∈ns,(rd' s).1=(rd s).1)
  (hf:eN rd' (root,cT rd ns bs ns.length,ps,())=φ):mM rd' (root,cT rd ns bs ns.length,ps,())=(eD ns bs (ia (cM os) ps) os.length,0):=by
 rw[aan hf (h.bad ok hs)];simp only;rw[Pn,Po (by rw[h.bl,h.sc.len]),h.aK hs,h.lay];rfl
def eO(p:D aJ):Int:=if aN p.1 > 0 then aN p.1 else if p.2.1<1\/p.2.1 > 1000000\/p.2.2.1<0\/p.2.2.1 > 255\/p.2.2.1 % 16 > 0 then 1 else 0
def pb:List (D aJ)->Int
 |[]=>0
 |p :: r=>if eO p=0 then pb r else eO p
def dY(n:Nat)(p:Pt):Int:=if p.1<0\/p.1>=(n:Int)\/p.2.1<0\/p.2.1 > 39\/eW p.2.2.1=ψ then 1 else 0
def oM(n:Nat):List Pt->Int
 |[]=>0
 |p :: r=>if dY n p=0 then oM n r else dY n p
def uO(e:D aC):Prop:=e.2.1.length<1\/e.2.1.length > 6\/e.2.2.1.length > 36
instance(e:D aC):Decidable (uO e):=by unfold uO;infer_instance
def bF(e:D aC):Int:=
 if aN e.1 > 0 then aN e.1 else if uO e then 2 else if ¬pb e.2.1=0 then pb e.2.1 else oM e.2.1.length e.2.2.1
def Nc(p:D aJ):0<=eO p:=by
 unfold eO;split
 ·omega
 ·split <;> decide
def Nd(n:Nat)(p:Pt):0<=dY n p:=by unfold dY;split <;> decide
def yf:∀l:List (D aJ),0<=pb l
 |[]=>ax _
 |p :: r=>by
  unfold pb;split
  ·exact yf r
  ·exact Nc p
def wP(n:Nat):∀l:List Pt,0<=oM n l
 |[]=>ax _
 |p :: r=>by
  unfold oM;split
  ·exact wP n r
  ·exact Nd n p
def ux(e:D aC):0<=bF e:=by
 unfold bF;split
 ·omega
 ·split
  ·decide
  ·split
   ·exact yf _
   ·exact wP _ _
def Hd:∀{l:List (D aJ)} {i:Nat},(∀j,j<i->eO (nth aJ l j)=0)->i<l.length->¬eO (nth aJ l i)=0->pb l=eO (nth aJ l i)
 |[],i,_,h,_=>by simp at h
 |p :: r,0,_,_,h=>by unfold pb;rw[ε (show ¬eO p=0 from h)];rfl
 |p :: r,i+1,h,h1,h2=>by
  unfold pb;rw[π (show eO p=0 from h 0 ω)];exact Hd (l:=r) (i:=i) (fun j hj=>h (j+1) ω) (by simpa using h1) h2
def vT:∀{l:List (D aJ)},(∀j,j<l.length->eO (nth aJ l j)=0)->pb l=0
 |[],_=>rfl
 |p :: r,h=>by
  unfold pb;rw[π (show eO p=0 from h 0 ς)];exact vT (l:=r) fun j hj=>h (j+1) (by simpa using hj)
def D2{n:Nat}:∀{l:List Pt} {i:Nat},(∀j,j<i->dY n (nth aQ l j)=0)->i<l.length->¬dY n (nth aQ l i)=0->oM n l=dY n (nth aQ l i)
 |[],i,_,h,_=>by simp at h
 |p :: r,0,_,_,h=>by unfold oM;rw[ε (show ¬dY n p=0 from h)];rfl
 |p :: r,i+1,h,h1,h2=>by
  unfold oM;rw[π (show dY n p=0 from h 0 ω)];exact D2 (l:=r) (i:=i) (fun j hj=>h (j+1) ω) (by simpa using h1) h2
def AP{n:Nat}:∀{l:List Pt},(∀j,j<l.length->dY n (nth aQ l j)=0)->oM n l=0
 |[],_=>rfl
 |p :: r,h=>by
  unfold oM;rw[π (show dY n p=0 from h 0 ς)];exact AP (l:=r) fun j hj=>h (j+1) (by simpa using hj)
def xA{e:D aC}(h:aN e.1 > 0):bF e=aN e.1:=by unfold bF;rw[π h]
def nF{e:D aC}(h:aN e.1<=0)(h1:uO e):bF e=2:=by unfold bF;rw[ε ω,π h1]
def gz{e:D aC}(h:aN e.1<=0)(h1:¬uO e){i:Nat}(hs:∀j,j<i->eO (nth aJ e.2.1 j)=0)(hi:i<e.2.1.length){f:Int}(hf:eO (nth aJ e.2.1 i)=f)(h0:f≠0):bF e=f:=by
 have:=Hd hs hi (by rw[hf];exact h0);unfold bF;rw[ε ω,ε h1,π (by rw[this,hf];exact h0),this,hf]
def gP{e:D aC}(h:aN e.1<=0)(h1:¬uO e)(h2:∀j,j<e.2.1.length->eO (nth aJ e.2.1 j)=0){i:Nat}(hs:∀j,j<i->dY e.2.1.length (nth aQ e.2.2.1 j)=0)(hi:i<e.2.2.1.length)
  (hf:dY e.2.1.length (nth aQ e.2.2.1 i)=1):bF e=1:=by
 unfold bF;rw[ε ω,ε h1,ε (not_not_intro (vT h2)),D2 hs hi (by rw[hf];decide),hf]
def Ci{e:D aC}(h:aN e.1<=0)(h1:¬uO e)(h2:∀j,j<e.2.1.length->eO (nth aJ e.2.1 j)=0)(h3:∀j,j<e.2.2.1.length->dY e.2.1.length (nth aQ e.2.2.1 j)=0):bF e=0:=by
 unfold bF;rw[ε ω,ε h1,ε (not_not_intro (vT h2)),AP h3]
section
variable{rd:Rd}{root:aA}{i:Nat}{ns:List aA}{os:List (D aB)}
def l5.Pp(ok:gG rd)(h:l5 rd root i ns os)(hi:i<ns.length)(he:¬(rd (nth .str ns i)).2.2=0) :
  aX rd root=([],[],(rd (nth .str ns i)).2.2):=by
 rw[h.bad hi (by rw[B8 he];exact he),B8 he]
def l5.UP(h:l5 rd root i ns os)(hi:i<ns.length)(he:(rd (nth .str ns i)).2.2=0)(ho:¬(bY (rd (nth .str ns i)).1).2=0) :
  aX rd root=([],[],(bY (rd (nth .str ns i)).1).2):=by
 rw[h.bad hi (by rw[xw he];exact ho),xw he]
def u7{s:aA}(he:(rd s).2.2=0)(ho:(bY (rd s).1).2=0):fQ rd s=0:=by rw[xw he];exact ho
def l5.I8(h:l5 rd root i ns os):os.length+1<=1000000000:=by have:=h.len;have:=h.le;omega
def l5.aao(h:l5 rd root i ns os)(ok:gG rd){s:aA}(hf:fQ rd s=0)(k:Nat):(fZ ns (af k (lz rd s).1)).length+1<=1000000000:=by
 obtain⟨r,h1,h2,_⟩:=rl (af k (lz rd s).1) ns;have:=(Fo ok hf).n4;have:=h.hi;have:=h.le;rw[h1,a7];rw[bc]at h2;omega
def Db{l:List aA}{k:Nat}(h:k<l.length)(hn:(fZ ns (l.take k)).any (fun x=>x == nth .str l k)=ψ):fZ ns (l.take k)++[nth .str l k]=fZ ns (l.take (k+1)):=by
 rw[KH h,ε (by rw[hn];exact Bool.false_ne_true)]
def Dc{l:List aA}{k:Nat}(h:k<l.length)(hn:(fZ ns (l.take k)).any (fun x=>x == nth .str l k)=φ):fZ ns (l.take k)=fZ ns (l.take (k+1)):=by
 rw[KH h,π hn]
def Dd{l:List aA}{k:Nat}(h:¬k<l.length):fZ ns (l.take k)=fZ ns l:=by rw[bt ω]
def wQ(ok:gG rd){s:aA}(h:(rd s).2.2<=0):(rd s).2.2=0:=by
 rcases ok.code s with e|e <;> omega
def I9{s:aA}(h:(bY s).2<=0):(bY s).2=0:=by have:=xv s;omega
def aeI{l:List aA}{j:Nat}{y:aA}(h:(l.take j).any (fun x=>x == y)=φ):φ=(l.take (j+1)).any (fun x=>x == y):=by
 obtain⟨x,hx,e⟩:=cg.1 h;exact(cg.2 ⟨x,(List.take_sublist_take_left (bb j)).subset hx,e⟩).symm
def aeJ{l:List aA}{j:Nat}{y:aA}(hj:j<l.length)(h:(l.take j).any (fun x=>x == y)=ψ):(nth .str l j == y)=(l.take (j+1)).any (fun x=>x == y):=by
 rw[fJ (t:=.str) hj,List.any_append,h];simp
def De{l:List aA}{j:Nat}{y:aA}{b:Bool}(hj:¬j<l.length)(h:(l.take j).any (fun x=>x == y)=b):l.any (fun x=>x == y)=b:=by
 rwa [bt ω]at h
end
def ja{rd:Rd}(ok:gG rd)(root:aA):0<=(aX rd root).2.2:=by
 rcases xx ok root with⟨f,hf,e⟩|⟨ns,os,e,_⟩
 ·rw[e];exact Int.le_of_lt hf
 ·rw[e];exact ax _
def aap{rd:Rd}{root:aA}{ns:List aA}{os:List (D aB)}{bs:List Int}{ps:List Pt}{w:Ws}(h:aX rd root=(ns,os,0))(hb:cF (bX os,[])=(bs,.nil))(ha:eX (os,bs)=(ps,.nil))
  (hn:ns.length=os.length)(hl:bs.length=os.length)(hp:∀i,i<ps.length->wD (cM os) (nth aQ ps i))(hw:ia (cM os) ps=w):cR rd root=(eD ns bs w os.length,0):=by
 have e:bC rd root=(ns,os,bs,ps,0):=by
  unfold bC;rw[h];simp only[hb,ha,aR.isNil];rfl
 unfold cR;rw[e,ε ς];have hq:kO (cM os,ps)=(w,.nil):=by rw[x9 hp,hw]
 simp only;rw[I6 hn hl (by rw[hq];rfl),hq];rfl
def pY:aA:=[119,111,114,100,32,53,10,98,97,115,101,32,48,32,51,10]
abbrev Ja:D aB:=([],[5],[],[(0,1,3,[],ψ,())],())
def Xp:bY pY=(Ja,0):=by
 have i5:ab 5=[53]:=by rw[oJ δ δ];rfl
 have i0:ab 0=[48]:=by rw[oJ δ δ];rfl
 have i3:ab 3=[51]:=by rw[oJ δ δ];rfl
 refine C8 δ δ ?_;simp only[fV,fK,jC,lR,mv,wL,xq,gS,ed,gf,fz,gd,cc,List.flatMap_nil,i5,i0,i3];decide
def KP{rd:Rd}{a t:aA}{n:Int}{o:D aB}(h:rd a=(t,n,0))(ho:bY t=(o,0))(hn:o.1=[]):aX rd a=([a],[o],0):=by
 have fa:fQ rd a=0:=by unfold fQ;rw[h];show(if(0:Int)=0 then(bY t).2 else 0)=0;rw[ho];rfl
 have oa:lz rd a=o:=by unfold lz;rw[h];show(bY t).1=o;rw[ho]
 have n0:nth .str [a] 0=a:=rfl;unfold aX;rw[kY,π ς,n0,π fa,oa,hn,O6,kY,ε ς];rfl
def D3{rd:Rd}(ok:gG rd)(s:aA):0<=(cR rd s).2:=by
 rcases uN ok s with⟨f,hf,_,e⟩|⟨ns,os,bs,ps,_,_,e⟩
 ·rw[e];exact Int.le_of_lt hf
 ·rw[e];exact ax _
def SM{rd:Rd}(ok:gG rd){s:aA}(h:(cR rd s).2 > 0):bC rd s=([],[],[],[],(cR rd s).2)/\(cR rd s).1=[]:=by
 rcases uN ok s with⟨f,hf,e1,e⟩|⟨ns,os,bs,ps,_,_,e⟩
 ·rw[e];exact⟨e1,rfl⟩
 ·rw[e]at h;exact absurd h ς
def Pq{rd:Rd}(ok:gG rd){s:aA}(h:(cR rd s).2<=0):∃ns os bs ps,bC rd s=(ns,os,bs,ps,0)/\jn rd s ns os bs ps/\cR rd s=(eD ns bs (ia (cM os) ps) os.length,0):=by
 rcases uN ok s with⟨f,hf,e1,e⟩|h'
 ·rw[e]at h;exact absurd hf (ar.2 h)
 ·exact h'
def Pr{rd rd':Rd}{root:aA}(h:aX rd' root=aX rd root):bC rd' root=bC rd root:=by unfold bC;rw[h]
def KQ{s k:aA}(h:¬k=s):∀{es:List FE},dV cY (iW cY es s) k=dV cY es k/\kL cY (iW cY es s) k=kL cY es k
 |[]=>⟨rfl,rfl⟩
 |y :: es=>by
  obtain⟨h1,h2⟩:=KQ h (es:=es);by_cases e:y.1=s
  ·have hk:¬y.1=k:=fun e'=>h (e'.symm.trans e)
   have hs:¬s=k:=fun e'=>h e'.symm
   have hd:iW cY (y :: es) s=es:=π e;rw[hd];constructor
   ·simp[dV,hk]
   ·show kL cY es k=if y.1=k then y.2.1 else kL cY es k;rw[ε hk]
  ·have hd:iW cY (y :: es) s=y :: iW cY es s:=ε e
   rw[hd];constructor
   ·simp only[dV]at h1 ⊢;simp[h1]
   ·show(if y.1=k then y.2.1 else kL cY (iW cY es s) k)=if y.1=k then y.2.1 else kL cY es k;rw[h2]
def aaq{x:cU}{s k:aA}(h:¬k=s):aU (fA x s).1 k=aU x k:=by
 cases hh:dV cY x.2.1.1 s with
 |false=>rw[pa hh]
 |true=>
  rw[n5 hh];unfold aU;obtain⟨h1,h2⟩:=KQ h (es:=x.2.1.1);simp only[h1,h2]
def jm.ok{x:cU}(h:jm x):gG (aU x):=lF h.pre.1
def KR{rd:Rd}(ok:gG rd){s:aA}(h:(bC rd s).2.2.2.2=0):jn rd s (bC rd s).1 (bC rd s).2.1 (bC rd s).2.2.1 (bC rd s).2.2.2.1:=by
 rcases pX ok s with⟨f,hf,e⟩|⟨ns,os,bs,ps,e,hr⟩
 ·rw[e]at h;exact absurd (show f=0 from h) ω
 ·rw[e];exact hr
def KS{rd:Rd}(ok:gG rd){s:aA}(h:(bC rd s).2.2.2.2=0){i:Nat}(hi:i<(bC rd s).1.length):(rd (nth .str (bC rd s).1 i)).2.2=0:=
 (lE ok ((KR ok h).sc.AO i hi).1).1
def KT{rd:Rd}(ok:gG rd){s:aA}(h:(bC rd s).2.2.2.2=0):(bC rd s).2.2.1.length=(bC rd s).1.length/\(bC rd s).1.length<=6:=by
 have hr:=KR ok h;exact⟨by rw[hr.bl,hr.sc.len],hr.sc.le⟩
def D4{l:List (D aJ)}{i:Nat}(h:i<l.length):il (l.take i)++[(nth aJ l i).1]=il (l.take (i+1)):=by rw[mf (t:=aJ) h];simp[il]
def D5{l:List (D aJ)}{i:Nat}(h:i<l.length):im (l.take i)++[(nth aJ l i).2.2.1]=im (l.take (i+1)):=by rw[mf (t:=aJ) h];simp[im]
def He{rd:Rd}{l:List (D aJ)}{i:Nat}(h:i<l.length):ie rd (l.take i)++[(bY (rd (nth aJ l i).1).1).1]=ie rd (l.take (i+1)):=by rw[mf (t:=aJ) h];simp[ie]
def aar{rd:Rd}{l:List (D aJ)}(hl:l.length<=1000)(h:∀j,j<l.length->(bY (rd (nth aJ l j).1).1).2=0) :
  (ie rd l).length<=1000/\∀i,i<(ie rd l).length->(nth aB (ie rd l) i).2.1.length<=1000:=by
 have e:(ie rd l).length=l.length:=by simp[ie]
 refine⟨ω,fun i hi =>?_⟩;have hi':i<l.length:=by omega
 rw[show nth aB (ie rd l) i=(bY (rd (nth aJ l i).1).1).1 from sX (t:=aB) (u:=aJ) hi'];exact cz (iY (zW (h i hi'))).Z2 δ
def aas{rd:Rd}{p:D aJ}(h:(aP (rd p.1).2.2).isNil=ψ):gX rd p=ψ:=by
 unfold gX;rw[decide_eq_false (fD h)];rfl
def Hf{rd:Rd}{p:D aJ}(h:¬(rd p.1).2.1=p.2.1):gX rd p=ψ:=by
 unfold gX;rw[decide_eq_false h,gg]
def Xq{rd:Rd}{p:D aJ}(h:(aP (rd p.1).2.2).isNil=φ)(h2:(rd p.1).2.1=p.2.1):gX rd p=φ:=by
 unfold gX;rw[decide_eq_true (aZ.1 h),decide_eq_true h2];rfl
def aeK{rd:Rd}{e:D aC}(h:eN rd e=φ)(hb:pz rd e.2.1=0) :
  ((ma (il e.2.1) (im e.2.1) (ie rd e.2.1) e.2.2.1).1,(ma (il e.2.1) (im e.2.1) (ie rd e.2.1) e.2.2.1).2,())=((mM rd e).1,aP (mM rd e).2,()):=by
 rw[aan h hb];simp only[uM (O9 _ _ _ _)]
structure ji (x:cU):Prop where
 st:jm x
 UQ:∀y∈x.2.1.1,aN y.1=0/\y.2.1.1.length<=1200/\1<=y.2.1.2.1
def ji.new:ji qo:=⟨.new,fun y hy=>by simp[qo]at hy⟩
def Ps{s:aA}{v:aA×Int×Unit}{c:Int}:∀{es:List FE} {y:FE},y∈hU cY es s v c->(y.1=s/\y.2.1=v)\/y∈es
 |[],y,h=>by simp[hU]at h;subst h;exact .inl ⟨rfl,rfl⟩
 |z :: r,y,h=>by
  unfold hU at h;split at h
  ·rcases ag.1 h with rfl|h
   ·exact .inl ⟨rfl,rfl⟩
   ·exact .inr (by simp[h])
  ·rcases ag.1 h with rfl|h
   ·exact .inr ς
   ·rcases Ps h with h|h
    ·exact .inl h
    ·exact .inr (by simp[h])
def Pu{x:cU}{s t:aA}(h:(cZ x s t).2=0):aN s=0/\t.length<=1200/\¬x.1.1=1000000:=by
 unfold cZ at h;split at h
 ·rename_i h1;exact absurd h h1
 ·rename_i h1
  split at h
  ·simp at h
  ·rename_i h2
   split at h
   ·simp at h
   ·rename_i h3
    exact⟨by simpa using h1,ω,fun e=>h3 (.inr e)⟩
def jm.pos{x:cU}(h:jm x):0<=x.1.1:=h.pre.2.1
def ji.write{x:cU}(h:ji x)(s t:aA):ji (cZ x s t).1:=by
 refine⟨(h.st.write s t).1,?_⟩;rcases oX x s t with⟨e,_⟩|⟨e,e2⟩
 ·rw[e];exact h.UQ
 ·rw[e]
  intro y hy;obtain⟨k1,k2,_⟩:=Pu e2;rcases Ps hy with⟨h1,h2⟩|hy
  ·rw[h1,h2];exact⟨k1,k2,by have:=h.st.pos;show(1:Int)<=x.1.1+1;omega⟩
  ·exact h.UQ y hy
def ji.remove{x:cU}(h:ji x)(s:aA):ji (fA x s).1:=by
 refine⟨(h.st.remove s).1,?_⟩;cases c:dV cY x.2.1.1 s with
 |false=>rw[pa c];exact h.UQ
 |true=>rw[n5 c];exact fun y hy=>h.UQ y (sU.subset hy)
def ji.ok{x:cU}(h:ji x):gG (aU x):=h.st.ok
def ji.read{x:cU}(h:ji x){s:aA}(hn:(aU x s).2.2=0):aN s=0/\(aU x s).1.length<=1200/\1<=(aU x s).2.1/\(aU x s).2.1<=x.1.1:=by
 refine⟨?_,?_,?_,WT h.st (aZ.2 hn)⟩
 all_goals
  cases c:dV cY x.2.1.1 s with
  |false=>rw[ov c]at hn;simp at hn
  |true=>
   obtain⟨r,hr⟩:=h.st.ic;obtain⟨y,hy,e⟩:=oH.1 c;have hy':=h.UQ y hy
   first
    |(rw[sa c,zI hr.names y hy e];first|exact hy'.2.1|exact hy'.2.2)
    |(rw[<-e];exact hy'.1)
def KU{rd:Rd}(ok:gG rd){root:aA}(h:(aP (dA rd root).2).isNil=φ) :
  ∃ns os bs ps,bC rd root=(ns,os,bs,ps,0)/\jn rd root ns os bs ps/\dA rd root=((root,cT rd ns bs ns.length,ps,()),0):=by
 rcases Xo ok root with⟨f,hf,_,e⟩|h'
 ·rw[e]at h;exact absurd (aZ.1 h) (by show ¬f=0;omega)
 ·exact h'
def aat{rd rd':Rd}{ns:List aA}{bs:List Int}(h:∀k∈ns,rd' k=rd k):cT rd' ns bs ns.length=cT rd ns bs ns.length:=by
 refine lG (t:=aJ) (by rw[fE,fE]) fun i hi =>?_
 rw[fE]at hi;rw[jX hi,jX hi,h _ (eG (t:=.str) hi)]
def Xr{rd rd':Rd}{root:aA}{ns:List aA}{os:List (D aB)}{bs:List Int}{ps:List Pt}(e:bC rd root=(ns,os,bs,ps,0))(hr:jn rd root ns os bs ps)(h:∀k∈ns,rd' k=rd k):dA rd' root=dA rd root:=by
 have hs:aX rd' root=aX rd root:=SD (by rw[hr.e]) (by rw[hr.e];exact h);have e':bC rd' root=(ns,os,bs,ps,0):=by rw[Pr hs,e]
 rw[u6 (by rw[e']),u6 (by rw[e]),e',e];simp only;rw[aat h]
def Hg{p:D aJ}(h:aN p.1 > 0):eO p=aN p.1:=by unfold eO;rw[π h]
def mi{p:D aJ}(h:aN p.1<=0)(h2:p.2.1<(1:Int)\/p.2.1 > (1000000:Int)\/p.2.2.1<(0:Int)\/p.2.2.1 > (255:Int)\/p.2.2.1 % (16:Int) > 0):eO p=1:=by
 unfold eO;rw[ε ω,π h2]
def Fv{p:D aJ}(h:aN p.1<=0)(h1:(1:Int)<=p.2.1)(h2:p.2.1<=(1000000:Int))(h3:(0:Int)<=p.2.2.1)(h4:p.2.2.1<=(255:Int))(h5:p.2.2.1 % (16:Int)=0):eO p=0:=by
 unfold eO;rw[ε ω,ε];rintro(e|e|e|e|e)
 ·exact absurd e (ar.2 h1)
 ·exact absurd e (ar.2 h2)
 ·exact absurd e (ar.2 h3)
 ·exact absurd e (ar.2 h4)
 ·exact absurd (show(0:Int)<0 from h5▸e) δ
def Aa{b x:Int}(h:0<=b)(e:x=Int.tmod b 16):x=b % 16:=by rw[e,dv h]
def mj{n:Nat}{p:Pt}(h:p.1<(0:Int)\/p.1>=(n:Int)\/p.2.1<(0:Int)\/p.2.1 > (39:Int)\/p.2.2.1<(-2147483648:Int)\/p.2.2.1 > (2147483647:Int)):dY n p=1:=by
 unfold dY;rw[π];rcases h with h|h|h|h|h|h
 ·exact .inl h
 ·exact .inr (.inl h)
 ·exact .inr (.inr (.inl h))
 ·exact .inr (.inr (.inr (.inl h)))
 ·refine .inr (.inr (.inr (.inr ?_)));unfold eW;rw[decide_eq_false (dq.2 h)];rfl
 ·refine .inr (.inr (.inr (.inr ?_)));unfold eW;rw[decide_eq_false (dq.2 h),gg]
def Hh{n:Nat}{p:Pt}(h1:(0:Int)<=p.1)(h2:p.1<(n:Int))(h3:(0:Int)<=p.2.1)(h4:p.2.1<=(39:Int))(h5:(-2147483648:Int)<=p.2.2.1)(h6:p.2.2.1<=(2147483647:Int)):dY n p=0:=by
 unfold dY;rw[ε];rintro(e|e|e|e|e)
 ·exact absurd e (ar.2 h1)
 ·exact absurd h2 (ar.2 e)
 ·exact absurd e (ar.2 h3)
 ·exact absurd e (ar.2 h4)
 ·unfold eW at e;rw[decide_eq_true h5,decide_eq_true h6]at e;cases e
def eP{e:D aC}(h1:(1:Int)<=(e.2.1.length:Int))(h2:(e.2.1.length:Int)<=6)(h3:(e.2.2.1.length:Int)<=36):¬uO e:=by
 rintro(k|k|k)
 ·have k:e.2.1.length<1:=k;omega
 ·have k:e.2.1.length > 6:=k;omega
 ·have k:e.2.2.1.length > 36:=k;omega
def oe(p:D aJ):aA:=[32]++p.1++[32]++ab p.2.1++[32]++ab p.2.2.1
def og(p:D aQ):aA:=[32]++ab p.1++[32]++ab p.2.1++[32]++ab p.2.2.1
def wR(e:D aC):aA:=e.1++[32]++ab (e.2.1.length:Int)++[32]++ab (e.2.2.1.length:Int)
def iw(e:D aC)(i:Nat):aA:=wR e++(e.2.1.take i).flatMap oe
def gT(e:D aC)(i:Nat):aA:=iw e e.2.1.length++(e.2.2.1.take i).flatMap og
def tC(e:D aC):aA:=gT e e.2.2.1.length
def dQ(e:D aC):aA:=tC e++[10]
def dM(e:D aC):aA×aR:=if bF e≠0 then([],aP (bF e))else(dQ e,.nil)
def Hi(e:D aC):iw e 0=wR e:=by unfold iw;simp
def Hj(e:D aC):gT e 0=iw e e.2.1.length:=by unfold gT;simp
def Hk{e:D aC}{i:Nat}(h:i<e.2.1.length):iw e (i+1)=iw e i++oe (nth aJ e.2.1 i):=by
 unfold iw;rw[fJ (t:=aJ) h];simp
def Hl{e:D aC}{i:Nat}(h:i<e.2.2.1.length):gT e (i+1)=gT e i++og (nth aQ e.2.2.1 i):=by
 unfold gT;rw[fJ (t:=aQ) h];simp
structure nJ (e:D aC):Prop where
 nm:Nm e.1
 p1:1<=e.2.1.length
 p6:e.2.1.length<=6
 D6:e.2.2.1.length<=36
 parts:∀i,i<e.2.1.length->Nm (nth aJ e.2.1 i).1/\jv 1 1000000 (nth aJ e.2.1 i).2.1/\jv 0 255 (nth aJ e.2.1 i).2.2.1
 Pv:∀i,i<e.2.2.1.length->jv 0 5 (nth aQ e.2.2.1 i).1/\jv 0 39 (nth aQ e.2.2.1 i).2.1/\jv (-2147483648) 2147483647 (nth aQ e.2.2.1 i).2.2.1
def Hm{n:Nat}{p:Pt}(h:¬dY n p=0):dY n p=1:=by
 unfold dY at h ⊢;split
 ·rfl
 ·rename_i hh;rw[ε hh]at h;exact absurd rfl h
def kZ{e:D aC}(h:bF e=0):nJ e:=by
 have h0:aN e.1=0:=by
  apply aq;intro hn;have:=cO e.1;rw[xA ω]at h;exact hn h
 have h1:¬uO e:=by
  intro hm;rw[nF ω hm]at h;cases h
 have h2:∀i,(∀j,j<i->j<e.2.1.length->eO (nth aJ e.2.1 j)=0)/\(i<e.2.1.length->eO (nth aJ e.2.1 i)=0):=by
  intro i;induction i with
  |zero=>
   refine⟨fun j hj=>by omega,fun hi =>?_⟩;apply aq;intro hn;rw[gz (i:=0) ω h1 (fun j hj=>by omega) hi rfl hn]at h;exact hn h
  |succ i ih=>
   have hs:∀j,j<i+1->j<e.2.1.length->eO (nth aJ e.2.1 j)=0:=fun j hj hl=>by
    rcases br j i with hh|hh
    ·exact ih.1 j hh hl
    ·obtain rfl:j=i:=by omega
     exact ih.2 hl
   refine⟨hs,fun hi =>?_⟩;apply aq;intro hn;rw[gz (i:=i+1) ω h1 (fun j hj=>hs j hj ω) hi rfl hn]at h;exact hn h
 have h2':∀i,i<e.2.1.length->eO (nth aJ e.2.1 i)=0:=fun i=>(h2 i).2
 have h3:∀i,(∀j,j<i->j<e.2.2.1.length->dY e.2.1.length (nth aQ e.2.2.1 j)=0)/\(i<e.2.2.1.length->dY e.2.1.length (nth aQ e.2.2.1 i)=0):=by
  intro i;induction i with
  |zero=>
   refine⟨fun j hj=>by omega,fun hi =>?_⟩;apply aq;intro hn;rw[gP (i:=0) ω h1 h2' (fun j hj=>by omega) hi (Hm hn)]at h;cases h
  |succ i ih=>
   have hs:∀j,j<i+1->j<e.2.2.1.length->dY e.2.1.length (nth aQ e.2.2.1 j)=0:=fun j hj hl=>by
    rcases br j i with hh|hh
    ·exact ih.1 j hh hl
    ·obtain rfl:j=i:=by omega
     exact ih.2 hl
   refine⟨hs,fun hi =>?_⟩;apply aq;intro hn;rw[gP (i:=i+1) ω h1 h2' (fun j hj=>hs j hj ω) hi (Hm hn)]at h;cases h
 have p1:1<=e.2.1.length:=b8.1 fun k=>h1 (.inl k)
 have p6:e.2.1.length<=6:=b8.1 fun k=>h1 (.inr (.inl k))
 refine⟨GR h0,p1,p6,b8.1 fun k=>h1 (.inr (.inr k)),fun i hi =>?_,fun i hi =>?_⟩
 ·have k:=h2' i hi
  unfold eO at k;split at k
  ·rename_i hn;omega
  ·rename_i hn
   split at k
   ·cases k
   ·rename_i hb
    have:=cO (nth aJ e.2.1 i).1;exact⟨GR ω,⟨ar.1 fun k=>hb (.inl k),ar.1 fun k=>hb (.inr (.inl k))⟩,⟨ar.1 fun k=>hb (.inr (.inr (.inl k))),ar.1 fun k=>hb (.inr (.inr (.inr (.inl k))))⟩⟩
 ·have k:=(h3 i).2 hi
  unfold dY at k;split at k
  ·cases k
  ·rename_i hb
   have hw:eW (nth aQ e.2.2.1 i).2.2.1=φ:=by
    apply Bool.not_eq_false _ |>.mp
    intro k;exact hb (.inr (.inr (.inr (.inr k))))
   unfold eW at hw;simp only[av,decide_eq_true_eq]at hw;have hl:(nth aQ e.2.2.1 i).1<(e.2.1.length:Int):=dq.1 fun k=>hb (.inr (.inl k))
   exact⟨⟨ar.1 fun k=>hb (.inl k),ω⟩,⟨ar.1 fun k=>hb (.inr (.inr (.inl k))),ar.1 fun k=>hb (.inr (.inr (.inr (.inl k))))⟩,hw⟩
def Xs{p:D aJ}(h1:Nm p.1)(h2:jv 1 1000000 p.2.1)(h3:jv 0 255 p.2.2.1):(oe p).length<=64:=by
 have a:=h1.2.1;have b:=eC h2 δ δ;have c:=eC h3 δ δ;simp[oe];omega
def Xt{p:D aQ}(h1:jv 0 5 p.1)(h2:jv 0 39 p.2.1)(h3:jv (-2147483648) 2147483647 p.2.2.1):(og p).length<=64:=by
 have a:=eC h1 δ δ;have b:=eC h2 δ δ;have c:=eC h3 δ δ;simp[og];omega
def nJ.head{e:D aC}(h:nJ e):(wR e).length<=64:=by
 have a:=h.nm.2.1;have b:=eC (n:=(e.2.1.length:Int)) (a:=0) (b:=6) ⟨ω,by have:=h.p6;omega⟩ δ δ;have c:=eC (n:=(e.2.2.1.length:Int)) (a:=0) (b:=36) ⟨ω,by have:=h.D6;omega⟩ δ δ;simp[wR];omega
def nJ.O1{e:D aC}(h:nJ e)(i:Nat):(iw e i).length<=448:=by
 have a:=h.head;have b:=rj (f:=oe) (l:=e.2.1.take i) fun x hx=>by
  obtain⟨j,hj,rfl⟩:=gO (t:=aJ) (cq hx);obtain⟨k1,k2,k3⟩:=h.parts j hj;exact Xs k1 k2 k3
 have c:=h.p6;have d:(e.2.1.take i).length<=e.2.1.length:=by simp;omega
 unfold iw;rw[a7];omega
def nJ.B3{e:D aC}(h:nJ e)(i:Nat):(gT e i).length<=2752:=by
 have a:=h.O1 e.2.1.length;have b:=rj (f:=og) (l:=e.2.2.1.take i) fun x hx=>by
  obtain⟨j,hj,rfl⟩:=gO (t:=aQ) (cq hx);obtain⟨k1,k2,k3⟩:=h.Pv j hj;exact Xt k1 k2 k3
 have c:=h.D6;have d:(e.2.2.1.take i).length<=e.2.2.1.length:=by simp;omega
 unfold gT;rw[a7];omega
def nJ.lens{e:D aC}(h:nJ e):e.1.length<=8/\(ab (e.2.1.length:Int)).length<=19/\(ab (e.2.2.1.length:Int)).length<=19:=
 ⟨h.nm.2.1,eC (a:=0) (b:=6) ⟨ω,by have:=h.p6;omega⟩ δ δ,eC (a:=0) (b:=36) ⟨ω,by have:=h.D6;omega⟩ δ δ⟩
def nJ.agI{e:D aC}(h:nJ e){i:Nat}(hi:i<e.2.1.length):(nth aJ e.2.1 i).1.length<=8/\(ab (nth aJ e.2.1 i).2.1).length<=19/\(ab (nth aJ e.2.1 i).2.2.1).length<=19/\(iw e i).length<=448:=by
 obtain⟨k1,k2,k3⟩:=h.parts i hi;exact⟨k1.2.1,eC k2 δ δ,eC k3 δ δ,h.O1 i⟩
def nJ.agJ{e:D aC}(h:nJ e){i:Nat}(hi:i<e.2.2.1.length):(ab (nth aQ e.2.2.1 i).1).length<=19/\(ab (nth aQ e.2.2.1 i).2.1).length<=19/\(ab (nth aQ e.2.2.1 i).2.2.1).length<=19/\(gT e i).length<=2752:=by
 obtain⟨k1,k2,k3⟩:=h.Pv i hi;exact⟨eC k1 δ δ,eC k2 δ δ,eC k3 δ δ,h.B3 i⟩
def Xu{e:D aC}{i:Nat}(h:i<e.2.1.length):iw e i++oe (nth aJ e.2.1 i)=iw e (i+1):=(Hk h).symm
def Xv{e:D aC}{i:Nat}(h:i<e.2.2.1.length):gT e i++og (nth aQ e.2.2.1 i)=gT e (i+1):=(Hl h).symm
def Xw{e:D aC}(h:bF e≠0):([],aP (bF e))=dM e:=by unfold dM;rw[π h]
def aau{e:D aC}(h:bF e=0){i:Nat}(hi:i=e.2.2.1.length):(gT e i++[10],aR.nil)=dM e:=by unfold dM;rw[ε (not_not_intro h),hi];rfl
def AQ(L:List aA):aA:=L.flatMap fun x=>32 :: x
def Jb(L M:List aA):AQ (L++M)=AQ L++AQ M:=by simp[AQ]
def Pw:∀(a:aA) (L:List aA),qp 32 (a :: L)=a++AQ L
 |a,[]=>by simp[qp,AQ]
 |a,b :: r=>by rw[qp,Pw b r];simp[AQ]
def yg(p:D aJ):List aA:=[p.1,ab p.2.1,ab p.2.2.1]
def yh(p:D aQ):List aA:=[ab p.1,ab p.2.1,ab p.2.2.1]
def nq(e:D aC):List aA:=e.1 :: ([ab (e.2.1.length:Int),ab (e.2.2.1.length:Int)]++(e.2.1.flatMap yg++e.2.2.1.flatMap yh))
def Fw{α:Type}{f:α->List aA}{g:α->aA}(h:∀x,AQ (f x)=g x):∀l:List α,AQ (l.flatMap f)=l.flatMap g
 |[]=>rfl
 |x :: l=>by rw[cc,Jb,h,Fw h l,cc]
def D7(e:D aC):tC e=qp 32 (nq e):=by
 unfold nq;rw[Pw,Jb,Jb,Fw (g:=oe) (by intro x;simp[yg,oe,AQ]),Fw (g:=og) (by intro x;simp[yh,og,AQ])];unfold tC gT iw wR;simp[AQ]
def D8{e:D aC}(h:nJ e):∀y∈nq e,(32:UInt8)∉y/\(10:UInt8)∉y:=by
 intro y hy;unfold nq at hy;rcases ag.1 hy with rfl|hy
 ·exact qv h.nm
 ·rcases ba.1 hy with hy|hy
  ·simp at hy
   rcases hy with rfl|rfl <;> exact⟨lS _,pU _⟩
  ·rcases ba.1 hy with hy|hy
   ·obtain⟨p,hp,hy⟩:=gh.1 hy
    obtain⟨j,hj,rfl⟩:=gO (t:=aJ) hp;simp[yg]at hy;rcases hy with rfl|rfl|rfl
    ·exact qv (h.parts j hj).1
    ·exact⟨lS _,pU _⟩
    ·exact⟨lS _,pU _⟩
   ·obtain⟨p,hp,hy⟩:=gh.1 hy
    simp[yh]at hy;rcases hy with rfl|rfl|rfl <;> exact⟨lS _,pU _⟩
def Hn{c:UInt8}(hc:c≠32):∀{L:List aA},(∀y∈L,c∉y)->c∉qp 32 L
 |[],_=>by simp[qp]
 |[x],h=>h x ς
 |x :: y :: r,h=>by
  rw[qp];intro hm;rcases ba.1 hm with hm|hm
  ·exact h x ς hm
  ·rcases ag.1 hm with e|hm
   ·exact hc e
   ·exact Hn hc (fun z hz=>h z (by simp[hz])) hm
def Xx{e:D aC}(h:nJ e):(10:UInt8)∉tC e:=by
 rw[D7];exact Hn δ fun y hy=>(D8 h y hy).2
def SN{e:D aC}(h:nJ e):parts 32 (tC e)=nq e:=by
 rw[D7];exact xp (by unfold nq;simp) fun y hy=>(D8 h y hy).1
def xB{e:D aC}(h:nJ e):parts 32 (ae (dQ e) [10])=nq e:=by
 unfold dQ;rw[sV,SN h]
theorem Cj{α:Type}{f:α->List aA}(hf:∀x,(f x).length=3):∀l:List α,(l.flatMap f).length=3*l.length
 |[]=>rfl
 |x :: l=>by rw[cc,a7,hf,Cj hf l,cy];omega
theorem Ck{α:Type}[Inhabited α]{f:α->List aA}(hf:∀x,(f x).length=3):∀(l:List α) (i k:Nat),i<l.length->k<3->nth .str (l.flatMap f) (3*i+k)=nth .str (f (l.getD i default)) k
 |[],i,k,h,_=>by simp at h
 |x :: l,0,k,_,hk=>by
  rw[cc,wO (t:=.str) (by rw[hf];omega)];simp
 |x :: l,i+1,k,h,hk=>by
  rw[cc,r5,ε (by rw[hf];omega),hf,show 3*(i+1)+k-3=3*i+k by omega,Ck hf l i k (by simpa using h) hk];simp
structure oZ (w:List aA) (e:D aC):Prop where
 len:w.length=3+3*(e.2.1.length+e.2.2.1.length)
 root:nth .str w 0=e.1
 a:nth .str w 1=ab (e.2.1.length:Int)
 b:nth .str w 2=ab (e.2.2.1.length:Int)
 p0:∀i,i<e.2.1.length->nth .str w (3+3*i)=(nth aJ e.2.1 i).1
 p1:∀i,i<e.2.1.length->nth .str w (4+3*i)=ab (nth aJ e.2.1 i).2.1
 p2:∀i,i<e.2.1.length->nth .str w (5+3*i)=ab (nth aJ e.2.1 i).2.2.1
 q0:∀i,i<e.2.2.1.length->nth .str w (3+3*(e.2.1.length+i))=ab (nth aQ e.2.2.1 i).1
 q1:∀i,i<e.2.2.1.length->nth .str w (4+3*(e.2.1.length+i))=ab (nth aQ e.2.2.1 i).2.1
 q2:∀i,i<e.2.2.1.length->nth .str w (5+3*(e.2.1.length+i))=ab (nth aQ e.2.2.1 i).2.2.1
def D9{t:Ty}{l:List (D t)}{i:Nat}(d:D t)(h:i<l.length):nth t l i=l.getD i d:=by
 unfold nth;rw[List.getD_eq_getElem?_getD,List.getD_eq_getElem?_getD,List.getElem?_eq_getElem h];rfl
def Px(e:D aC):oZ (nq e) e:=by
 have hs:∀x,(yg x).length=3:=fun _=>rfl
 have hp:∀x,(yh x).length=3:=fun _=>rfl
 have ls:=Cj hs e.2.1;have lp:=Cj hp e.2.2.1;have at3:∀k,nth .str (nq e) (3+k)=nth .str (e.2.1.flatMap yg++e.2.2.1.flatMap yh) k:=fun k=>by
  rw[show 3+k=k+1+1+1 by omega];rfl
 letI:Inhabited (D aJ):=⟨cD aJ⟩
 letI:Inhabited (D aQ):=⟨cD aQ⟩
 have hP:∀i k,i<e.2.1.length->k<3->nth .str (nq e) (3+(3*i+k))=nth .str (yg (nth aJ e.2.1 i)) k:=fun i k hi hk=>by
  rw[at3,wO (t:=.str) ω,Ck hs _ i k hi hk,D9 default hi]
 have hQ:∀i k,i<e.2.2.1.length->k<3->nth .str (nq e) (3+(3*(e.2.1.length+i)+k))=nth .str (yh (nth aQ e.2.2.1 i)) k:=fun i k hi hk=>by
  rw[at3,r5,ε ω,ls,show 3*(e.2.1.length+i)+k-3*e.2.1.length=3*i+k by omega,Ck hp _ i k hi hk,D9 default hi]
 refine⟨?_,rfl,rfl,rfl,fun i hi =>?_,fun i hi =>?_,fun i hi =>?_,fun i hi =>?_,fun i hi =>?_,fun i hi =>?_⟩
 ·unfold nq;simp only[cy,a7,gf,ls,lp];omega
 ·exact hP i 0 hi ω
 ·rw[show 4+3*i=3+(3*i+1) by omega];exact hP i 1 hi ω
 ·rw[show 5+3*i=3+(3*i+2) by omega];exact hP i 2 hi ω
 ·exact hQ i 0 hi ω
 ·rw[show 4+3*(e.2.1.length+i)=3+(3*(e.2.1.length+i)+1) by omega];exact hQ i 1 hi ω
 ·rw[show 5+3*(e.2.1.length+i)=3+(3*(e.2.1.length+i)+2) by omega];exact hQ i 2 hi ω
def partAt(A:aA->Int)(w:List aA)(i:Nat):D aJ:=(nth .str w (3+3*i),A (nth .str w (4+3*i)),A (nth .str w (5+3*i)),())
def yi(A:aA->Int)(w:List aA)(i:Nat):D aQ:=(A (nth .str w (3+3*i)),A (nth .str w (4+3*i)),A (nth .str w (5+3*i)),())
def eZ(A:aA->Int)(w:List aA)(n:Nat):List (D aJ):=(b7 n).map (partAt A w)
def dP(A:aA->Int)(w:List aA)(a n:Nat):List (D aQ):=(b7 n).map fun i=>yi A w (a+i)
def Ea(A:aA->Int)(w:List aA)(n:Nat):(eZ A w n).length=n:=by simp[eZ]
def AR(A:aA->Int)(w:List aA)(a n:Nat):(dP A w a n).length=n:=by simp[dP]
def SO{A:aA->Int}{w:List aA}{n i:Nat}(h:i<n):nth aJ (eZ A w n) i=partAt A w i:=by
 unfold nth eZ;rw[List.getD_eq_getElem?_getD,List.getElem?_map,List.getElem?_range h];rfl
def Nf{A:aA->Int}{w:List aA}{a n i:Nat}(h:i<n):nth aQ (dP A w a n) i=yi A w (a+i):=by
 unfold nth dP;rw[List.getD_eq_getElem?_getD,List.getElem?_map,List.getElem?_range h];rfl
def Py(A:aA->Int)(w:List aA)(n:Nat):eZ A w (n+1)=eZ A w n++[partAt A w n]:=by simp[eZ,cx]
def Jc(A:aA->Int)(w:List aA)(a n:Nat):dP A w a (n+1)=dP A w a n++[yi A w (a+n)]:=by simp[dP,cx]
def Num(A:aA->Int):Prop:=∀n:Int,jv (-2147483648) 2147483647 n->A (ab n)=n
def jo{a b n:Int}(h:jv a b n)(ha : -2147483648<=a)(hb:b<=2147483647):jv (-2147483648) 2147483647 n:=⟨b9 ha h.1,b9 h.2 hb⟩
def nJ.na{e:D aC}(h:nJ e):jv 0 6 (e.2.1.length:Int):=⟨ω,by have:=h.p6;omega⟩
def nJ.nb{e:D aC}(h:nJ e):jv 0 36 (e.2.2.1.length:Int):=⟨ω,by have:=h.D6;omega⟩
def oZ.eq{A:aA->Int}(hA:Num A){w:List aA}{e:D aC}(r:oZ w e)(h:nJ e):e=(nth .str w 0,eZ A w e.2.1.length,dP A w e.2.1.length e.2.2.1.length,()):=by
 obtain⟨s,p,q,_⟩:=e;have e1:p=eZ A w p.length:=lG (t:=aJ) (by rw[Ea]) fun i hi=>by
  rw[SO hi];obtain⟨k1,k2,k3⟩:=h.parts i hi;unfold partAt;rw[r.p0 i hi,r.p1 i hi,r.p2 i hi,hA _ (jo k2 δ δ),hA _ (jo k3 δ δ)]
 have e2:q=dP A w p.length q.length:=lG (t:=aQ) (by rw[AR]) fun i hi=>by
  rw[Nf hi];obtain⟨k1,k2,k3⟩:=h.Pv i hi;unfold yi;rw[r.q0 i hi,r.q1 i hi,r.q2 i hi,hA _ (jo k1 δ δ),hA _ (jo k2 δ δ),hA _ k3]
 have e0:nth .str w 0=s:=r.root;rw[e0];exact congrArg (fun z=>(s,z)) (show(p,q,())=(eZ A w p.length,dP A w p.length q.length,()) by rw[<-e1,<-e2])
def dW(s:aA):Int:=(dG s).1
def kq:Num dW:=fun n h=>by
 have:=u5 h δ δ;exact pV this
def aav{e e':D aC}(h:bF e=0)(h':bF e'=0)(ht:dQ e=dQ e'):e=e':=by
 have k:=kZ h;have k':=kZ h';have hw:nq e=nq e':=by rw[<-xB k,<-xB k',ht]
 have r:=Px e;have r':=Px e';rw[hw]at r;have ha:(e.2.1.length:Int)=(e'.2.1.length:Int):=by
  rw[<-kq _ (jo k.na δ δ),<-kq _ (jo k'.na δ δ),<-r.a,<-r'.a]
 have hb:(e.2.2.1.length:Int)=(e'.2.2.1.length:Int):=by
  rw[<-kq _ (jo k.nb δ δ),<-kq _ (jo k'.nb δ δ),<-r.b,<-r'.b]
 refine(r.eq kq k).trans (Eq.trans ?_ (r'.eq kq k').symm);rw[c6.1 ha,c6.1 hb]
open Classical in
def rn(s:aA):D aC×Int:=if h:∃e:D aC,bF e=0/\dQ e=s then(cu h,0)else(cD aC,4)
def UR{s:aA}{e:D aC}(hf:bF e=0)(ht:dQ e=s):rn s=(e,0):=by
 have hx:∃e:D aC,bF e=0/\dQ e=s:=⟨e,hf,ht⟩
 have hc:=dw hx;unfold rn;rw[dif_pos hx,aav hc.1 hf (hc.2.trans ht.symm)]
def aeL{s:aA}(hn:∀e:D aC,bF e=0->dQ e=s->False):rn s=(cD aC,4):=by
 unfold rn;rw[dif_neg fun⟨e,h1,h2⟩=>hn e h1 h2]
def jz(s:aA):D aC×aR:=((rn s).1,aP (rn s).2)
def sg{s:aA}(hn:∀e:D aC,bF e=0->dQ e=s->False):(cD aC,aR.no 4)=jz s:=by unfold jz;rw[aeL hn];rfl
def aaw{s:aA}{e:D aC}(h:(dM e).2.isNil=φ)(ht:(dM e).1=s):(e,aR.nil)=jz s:=by
 have hf:bF e=0:=by
  apply aq;intro hf;unfold dM at h;rw[π hf]at h;exact hf (aZ.1 h)
 unfold dM at ht;rw[ε (not_not_intro hf)]at ht;unfold jz;rw[UR hf ht];rfl
def oN(l:List aA):List Int:=l.map dW
def Ab(l:List aA):Bool:=l.all fun s=>(dO s).isSome
def cJ(l:List aA):List Int×Bool:=if Ab l=φ then(oN l,φ)else([],ψ)
def aeM{l:List aA}{i:Nat}(hi:i<l.length)(h:dO (nth .str l i)=χ):Ab l=ψ:=by
 unfold Ab;rw[df];exact⟨nth .str l i,eG (t:=.str) hi,by rw[h];decide⟩
def Eb{l:List aA}{i:Nat}(hi:i<l.length)(h:(dO (nth .str l i)).isNone=φ):([],ψ)=cJ l:=by
 unfold cJ;rw[aeM hi (Option.isNone_iff_eq_none.1 h)];rfl
def Ac{l:List aA}(h:∀j,j<l.length->(dO (nth .str l j)).isNone=ψ):Ab l=φ:=by
 unfold Ab;rw[bk];intro s hs;obtain⟨j,hj,rfl⟩:=gO (t:=.str) hs;have:=h j hj;cases hh:dO (nth .str l j)with
 |none=>rw[hh]at this;cases this
 |some n=>rfl
def Xy{l:List aA}{i:Nat}(hi:¬i<l.length)(h:∀j,j<i->j<l.length->(dO (nth .str l j)).isNone=ψ):(oN (l.take i),φ)=cJ l:=by
 unfold cJ;rw[Ac fun j hj=>h j ω hj,π rfl,bt ω]
def Ho{l:List aA}{i:Nat}(h:i<l.length):oN (l.take (i+1))=oN (l.take i)++[(dG (nth .str l i)).1]:=by
 rw[fJ (t:=.str) h];simp[oN,dW]
def pZ{l:List aA}:(cJ l).2=Ab l:=by
 unfold cJ;split
 ·rename_i h;rw[h]
 ·rename_i h;rw[gb _ |>.mp h]
def Ec{l:List aA}(h:(cJ l).2=φ){i:Nat}(hi:i<l.length):nth (.int .i64) (cJ l).1 i=dW (nth .str l i)/\(dO (nth .str l i)).isNone=ψ:=by
 have hk:=h;rw[pZ]at hk;constructor
 ·unfold cJ;rw[π hk]
  unfold nth oN;rw[List.getD_eq_getElem?_getD,List.getD_eq_getElem?_getD,List.getElem?_map,List.getElem?_eq_getElem hi];rfl
 ·unfold Ab at hk
  rw[bk]at hk;have:=hk _ (eG (t:=.str) hi);cases hh:dO (nth .str l i)with
  |none=>rw[hh]at this;cases this
  |some n=>rfl
def SP{l:List aA}(h:(cJ l).2=φ):(cJ l).1.length=l.length:=by
 rw[pZ]at h;unfold cJ;rw[π h];simp[oN]
structure sY (w:List aA):Prop where
 ka:(dO (nth .str w 1)).isNone=ψ
 kb:(dO (nth .str w 2)).isNone=ψ
 a0:(0:Int)<=dW (nth .str w 1)
 a6:dW (nth .str w 1)<=(6:Int)
 b0:(0:Int)<=dW (nth .str w 2)
 gQ:dW (nth .str w 2)<=(36:Int)
 len:(w.length:Int)=3+3*(dW (nth .str w 1)+dW (nth .str w 2))
def Hp{t:Ty}{l:List (D t)}{i j k:Nat}(h:i+k<j):nth t (ai i (af j l)) k=nth t l (i+k):=by
 unfold nth;rw[List.getD_eq_getElem?_getD,List.getD_eq_getElem?_getD,List.getElem?_drop,List.getElem?_take,π h]
def Pz{α:Type}{l:List α}{i j:Nat}(h:j<=l.length):(ai i (af j l)).length=j-i:=by simp;omega
def aax(s:aA)(c:UInt8)(h:s.length<=100000):(parts c (ae s [10])).length<=100001:=by
 have a:=tY c (ae s [10]);have b:=C9 s [10];omega
def ub{l:List aA}{n:Nat}(h:∀y∈l,y.length<=n)(i:Nat):(nth .str l i).length<=n:=by
 by_cases hi:i<l.length
 ·exact h _ (eG (t:=.str) hi)
 ·unfold nth;rw[List.getD_eq_getElem?_getD,List.getElem?_eq_none ω];exact ao _
def xC{s:aA}{c:UInt8}(h:s.length<=100000):∀y∈parts c (ae s [10]),y.length<=1000000:=fun y hy=>by
 have a:=oI c _ y hy;have b:=C9 s [10];omega
def PA{l:List aA}{n:Nat}(h:∀y∈l,y.length<=n)(i j:Nat):∀y∈ai i (af j l),y.length<=n:=fun y hy=>h y (cq (List.mem_of_mem_drop hy))
def ahs{s:aA}{c:UInt8}(h:s.length<=100000)(i j:Nat):(ai i (af j (parts c (ae s [10])))).length<=1000000/\∀k,(nth .str (ai i (af j (parts c (ae s [10])))) k).length<=1000000:=
 ⟨by have:=aax s c h;simp;omega,ub (PA (xC h) i j)⟩
def aht{w:List aA}(h:3<=w.length)(hk:(cJ (ai 1 (af 3 w))).2=φ) :
  (cJ (ai 1 (af 3 w))).1=[dW (nth .str w 1),dW (nth .str w 2)]/\(dO (nth .str w 1)).isNone=ψ/\(dO (nth .str w 2)).isNone=ψ:=by
 have hl:(ai 1 (af 3 w)).length=2:=Pz h;obtain⟨a1,a2⟩:=Ec hk (i:=0) ω;obtain⟨b1,b2⟩:=Ec hk (i:=1) ω;have hn:=SP hk;rw[Hp (t:=.str) ω]at a1 a2 b1 b2;refine⟨lG (t:=.int .i64) (by rw[hn,hl];rfl) fun i hi =>?_,a2,b2⟩;rw[hn,hl]at hi;rcases(show i=0\/i=1 by omega)with rfl|rfl
 ·rw[a1];rfl
 ·rw[b1];rfl
def SQ{w:List aA}(h:3<=w.length)(hk:(cJ (ai 1 (af 3 w))).2=ψ):¬sY w:=by
 intro hd;have hl:(ai 1 (af 3 w)).length=2:=Pz h;rw[pZ,Ac fun j hj =>?_]at hk
 ·cases hk
 ·rw[hl]at hj
  rcases(show j=0\/j=1 by omega)with rfl|rfl
  ·rw[Hp (t:=.str) ω];exact hd.ka
  ·rw[Hp (t:=.str) ω];exact hd.kb
def PB{w:List aA}(h:¬sY w):(φ=ψ↔sY w):=⟨fun e=>Bool.noConfusion e,fun e=>absurd e h⟩
def ajh{w:List aA}(ka:(dO (nth .str w 1)).isNone=ψ)(kb:(dO (nth .str w 2)).isNone=ψ){a b x:Int}(ha:a=dW (nth .str w 1))(hb:b=dW (nth .str w 2))
  (a0:0<=a)(a6:a<=6)(b0:0<=b)(gQ:b<=36)(hx:x=3*(a+b)):(((w.length:Int) != 3+x)=ψ↔sY w):=by
 subst ha;subst hb;subst hx;constructor
 ·intro h;exact⟨ka,kb,a0,a6,b0,gQ,by simpa using h⟩
 ·intro h;simpa using h.len
def sZ{s:aA}{e:D aC}(hf:bF e=0)(ht:dQ e=s):oZ (parts 32 (ae s [10])) e/\nJ e:=by
 have k:=kZ hf;rw[<-ht,xB k];exact⟨Px e,k⟩
def oZ.na{A:aA->Int}(hA:Num A){w:List aA}{e:D aC}(r:oZ w e)(k:nJ e):A (nth .str w 1)=(e.2.1.length:Int):=by rw[r.a,hA _ (jo k.na δ δ)]
def oZ.nb{A:aA->Int}(hA:Num A){w:List aA}{e:D aC}(r:oZ w e)(k:nJ e):A (nth .str w 2)=(e.2.2.1.length:Int):=by rw[r.b,hA _ (jo k.nb δ δ)]
def p5{n:Int}(h:jv (-2147483648) 2147483647 n):(dO (ab n)).isNone=ψ:=by rw[u5 h δ δ];rfl
def oZ.hd{w:List aA}{e:D aC}(r:oZ w e)(k:nJ e):sY w:=by
 have a:=r.na kq k;have b:=r.nb kq k;have c:=k.p6;have d:=k.D6;have l:=r.len;refine⟨by rw[r.a];exact p5 (jo k.na δ δ),by rw[r.b];exact p5 (jo k.nb δ δ),?_,?_,?_,?_,?_⟩ <;> (try rw[a]) <;> (try rw[b]) <;> omega
section
variable{s:aA}
def PC(h:(parts 32 (ae s [10])).length<3):(cD aC,aR.no 4)=jz s:=sg fun e hf ht=>by
 have:=(sZ hf ht).1.len;omega
def SR(h:¬sY (parts 32 (ae s [10]))):(cD aC,aR.no 4)=jz s:=sg fun e hf ht=>h ((sZ hf ht).1.hd (sZ hf ht).2)
def aeN{w:List aA}{e:D aC}(r:oZ w e)(k:nJ e){i:Nat}(hi:i<e.2.1.length):(dO (nth .str w (4+3*i))).isNone=ψ/\(dO (nth .str w (5+3*i))).isNone=ψ:=by
 obtain⟨_,k2,k3⟩:=k.parts i hi;rw[r.p1 i hi,r.p2 i hi];exact⟨p5 (jo k2 δ δ),p5 (jo k3 δ δ)⟩
def aay{w:List aA}{e:D aC}(r:oZ w e)(k:nJ e){i:Nat}(hi:e.2.1.length<=i)(PE:i<e.2.1.length+e.2.2.1.length) :
  (dO (nth .str w (3+3*i))).isNone=ψ/\(dO (nth .str w (4+3*i))).isNone=ψ/\(dO (nth .str w (5+3*i))).isNone=ψ:=by
 obtain⟨j,rfl⟩:∃j,i=e.2.1.length+j:=⟨i-e.2.1.length,ω⟩
 obtain⟨k1,k2,k3⟩:=k.Pv j ω;rw[r.q0 j ω,r.q1 j ω,r.q2 j ω];exact⟨p5 (jo k1 δ δ),p5 (jo k2 δ δ),p5 k3⟩
structure nP (w x:List aA) (i:Nat):Prop where
 len:x.length=3
 a:nth .str x 0=nth .str w (3+3*i)
 b:nth .str x 1=nth .str w (4+3*i)
 c:nth .str x 2=nth .str w (5+3*i)
def aaz{w:List aA}{i:Nat}{p q:Int}(hp:p=3*(i:Int))(hq:q=3*(i:Int))(h:3+3*(i+1)<=w.length):nP w (ai (az (3+p)) (af (az (6+q)) w)) i:=by
 subst hp;subst hq;rw[show az (3+3*(i:Int))=3+3*i by omega,show az (6+3*(i:Int))=6+3*i by omega];refine⟨by rw[Pz ω];omega,?_,?_,?_⟩ <;> rw[Hp (t:=.str) ω] <;> congr 1 <;> omega
def Ed{n:Nat}{w x:List aA}{i:Nat}(h:nP w x i)(hw:∀y∈w,y.length<=n)(k:Nat):(nth .str x k).length<=n:=by
 rcases br k 3 with hk|hk
 ·rcases(show k=0\/k=1\/k=2 by omega)with rfl|rfl|rfl
  ·rw[h.a];exact ub hw _
  ·rw[h.b];exact ub hw _
  ·rw[h.c];exact ub hw _
 ·unfold nth;rw[List.getD_eq_getElem?_getD,List.getElem?_eq_none (by rw[h.len];omega)];exact ao _
def Hq{w x:List aA}{i:Nat}(h:nP w x i):ai 1 (af (bq x) x)=[nth .str w (4+3*i),nth .str w (5+3*i)]:=by
 match x,h with
 |[p,q,r],h=>rw[<-h.b,<-h.c];rfl
def PF{w x:List aA}{i:Nat}(h:nP w x i):x=[nth .str w (3+3*i),nth .str w (4+3*i),nth .str w (5+3*i)]:=by
 match x,h with
 |[p,q,r],h=>rw[<-h.a,<-h.b,<-h.c];rfl
def KV{w x:List aA}{i:Nat}(h:nP w x i)(hk:(cJ (ai 1 (af (bq x) x))).2=φ) :
  (cJ (ai 1 (af (bq x) x))).1=[dW (nth .str w (4+3*i)),dW (nth .str w (5+3*i))]:=by
 rw[pZ]at hk;unfold cJ;rw[π hk,Hq h];rfl
def PG{w x:List aA}{i:Nat}(h:nP w x i)(hk:(cJ x).2=φ):(cJ x).1=[dW (nth .str w (3+3*i)),dW (nth .str w (4+3*i)),dW (nth .str w (5+3*i))]:=by
 rw[pZ]at hk;unfold cJ;rw[π hk];conv=>lhs;rw[PF h]
 rfl
def SS{x:List aA}{i:Nat}(h:nP (parts 32 (ae s [10])) x i)(hi:(i:Int)<dW (nth .str (parts 32 (ae s [10])) 1))(hk:(cJ (ai 1 (af (bq x) x))).2=ψ):(cD aC,aR.no 4)=jz s:=
 sg fun e hf ht=>by
  obtain⟨r,k⟩:=sZ hf ht;rw[r.na kq k]at hi;obtain⟨a,b⟩:=aeN r k (i:=i) ω;rw[pZ,Hq h,Ac fun j hj =>?_]at hk
  ·cases hk
  ·rcases(show j=0\/j=1 by simp at hj;omega)with rfl|rfl
   ·exact a
   ·exact b
def PH{x:List aA}{i:Nat}(h:nP (parts 32 (ae s [10])) x i)(hi:dW (nth .str (parts 32 (ae s [10])) 1)<=(i:Int))(PE:(i:Int)<dW (nth .str (parts 32 (ae s [10])) 1)+dW (nth .str (parts 32 (ae s [10])) 2))(hk:(cJ x).2=ψ):(cD aC,aR.no 4)=jz s:=
 sg fun e hf ht=>by
  obtain⟨r,k⟩:=sZ hf ht;rw[r.na kq k]at hi PE;rw[r.nb kq k]at PE;obtain⟨a,b,c⟩:=aay r k (i:=i) ω ω;rw[PF h]at hk;rw[pZ,Ac fun j hj =>?_]at hk
  ·cases hk
  ·rcases(show j=0\/j=1\/j=2 by simp at hj;omega)with rfl|rfl|rfl
   ·exact a
   ·exact b
   ·exact c
def Ny(A:aA->Int)(w:List aA)(a b:Nat):D aC:=(nth .str w 0,eZ A w a,dP A w a b,())
def Ee{a b:Nat}(ha:dW (nth .str (parts 32 (ae s [10])) 1)=(a:Int))(hb:dW (nth .str (parts 32 (ae s [10])) 2)=(b:Int))
  (h:(dM (Ny dW (parts 32 (ae s [10])) a b)).2.isNil=ψ\/¬(dM (Ny dW (parts 32 (ae s [10])) a b)).1=s):(cD aC,aR.no 4)=jz s:=
 sg fun e hf ht=>by
  obtain⟨r,k⟩:=sZ hf ht;rw[r.na kq k]at ha;rw[r.nb kq k]at hb;have he:Ny dW (parts 32 (ae s [10])) a b=e:=by
   rw[<-c6.1 ha,<-c6.1 hb];exact(r.eq kq k).symm
  rw[he]at h;unfold dM at h;rw[ε (not_not_intro hf)]at h;rcases h with h|h
  ·cases h
  ·exact h ht
end
def uB(w:List aA)(y:List Int×Bool):Prop:=(y.2=φ->y.1=[dW (nth .str w 1),dW (nth .str w 2)]/\(dO (nth .str w 1)).isNone=ψ/\(dO (nth .str w 2)).isNone=ψ)/\(y.2=ψ->¬sY w)
def ahu{w:List aA}(h:3<=w.length):uB w (cJ (ai 1 (af 3 w))):=⟨fun hk=>aht h hk,fun hk=>SQ h hk⟩
def uB.ok{w:List aA}{y:List Int×Bool}(h:uB w y)(hd:sY w):y.2=φ:=by
 cases hy:y.2 with
 |true=>rfl
 |false=>exact absurd hd (h.2 hy)
def uB.get{w:List aA}{y:List Int×Bool}(h:uB w y)(hd:sY w):y.1=[dW (nth .str w 1),dW (nth .str w 2)]:=(h.1 (h.ok hd)).1
def uB.l0{w:List aA}{y:List Int×Bool}(h:uB w y)(hy:y.2=φ):@Eq Int (nth (.int .i64) y.1 0) (dW (nth .str w 1)):=by rw[(h.1 hy).1];rfl
def uB.l1{w:List aA}{y:List Int×Bool}(h:uB w y)(hy:y.2=φ):@Eq Int (nth (.int .i64) y.1 1) (dW (nth .str w 2)):=by rw[(h.1 hy).1];rfl
def uB.k0{w:List aA}{y:List Int×Bool}(h:uB w y)(hd:sY w):@Eq Int (nth (.int .i64) y.1 0) (dW (nth .str w 1)):=h.l0 (h.ok hd)
def uB.k1{w:List aA}{y:List Int×Bool}(h:uB w y)(hd:sY w):@Eq Int (nth (.int .i64) y.1 1) (dW (nth .str w 2)):=h.l1 (h.ok hd)
def aaA{w x:List aA}{i:Nat}(h:nP w x i)(hw:∀y∈w,y.length<=1000000):x.length<=1000000/\∀k,(nth .str x k).length<=1000000:=⟨by rw[h.len];decide,Ed h hw⟩
def aaB{w x:List aA}{i:Nat}(h:nP w x i){n:Nat}(hw:∀y∈w,y.length<=n):∀y∈x,y.length<=n:=fun y hy=>by
 obtain⟨k,hk,rfl⟩:=gO (t:=.str) hy;exact Ed h hw k
def Xz{w x:List aA}{i:Nat}(h:nP w x i)(hw:∀y∈w,y.length<=1000000):(ai 1 (af (bq x) x)).length<=1000000/\∀k,(nth .str (ai 1 (af (bq x) x)) k).length<=1000000:=
 ⟨by have:=h.len;simp;omega,ub (PA (aaB h hw) _ _)⟩
def aaC(A:aA->Int)(w:List aA)(k:Nat):([]:List (D aJ))=eZ A w (bh 0 k):=by rw[show bh 0 k=0 from Nat.zero_min k];rfl
def agL(A:aA->Int)(w:List aA)(k:Nat):([]:List (D aQ))=dP A w k (0-k):=by rw[Nat.zero_sub];rfl
def aaD{i k:Nat}(h:i<k):bh i k=i/\bh (i+1) k=i+1:=⟨di ω,di h⟩
def PI{i k:Nat}(h:k<=i):bh i k=k/\bh (i+1) k=k:=⟨gi h,gi ω⟩
def KW{w x:List aA}{i k:Nat}(h:nP w x i)(hk:(cJ (ai 1 (af (bq x) x))).2=φ)(hi:i<k) :
  eZ dW w (bh i k)++[(nth .str x 0,nth (.int .i64) (cJ (ai 1 (af (bq x) x))).1 0,nth (.int .i64) (cJ (ai 1 (af (bq x) x))).1 1,())]=eZ dW w (bh (i+1) k):=by
 rw[(aaD hi).1,(aaD hi).2,Py,KV h hk,h.a];rfl
def KX{A:aA->Int}{w:List aA}{i k:Nat}(hi:i<k):dP A w k (i-k)=dP A w k (i+1-k):=by congr 1;omega
def Hr{A:aA->Int}{w:List aA}{i k:Nat}(hi:k<=i):eZ A w (bh i k)=eZ A w (bh (i+1) k):=by rw[(PI hi).1,(PI hi).2]
def PJ{w x:List aA}{i k:Nat}(h:nP w x i)(hk:(cJ x).2=φ)(hi:k<=i) :
  dP dW w k (i-k)++[(nth (.int .i64) (cJ x).1 0,nth (.int .i64) (cJ x).1 1,nth (.int .i64) (cJ x).1 2,())]=dP dW w k (i+1-k):=by
 rw[show i+1-k=(i-k)+1 by omega,Jc,PG h hk];unfold yi;rw[show k+(i-k)=i by omega];rfl
def PK{A:aA->Int}{w:List aA}{i a b:Nat}(h:i=a+b):(((nth .str w 0,eZ A w (bh i a),dP A w a (i-a),())):D aC)=Ny A w a b:=by
 rw[(PI (i:=i) (k:=a) ω).1,show i-a=b by omega];rfl
def XA{A:aA->Int}{w:List aA}{n:Nat}{x:D aJ}(h:n<=100):(eZ A w n).length+ [x].length<=1000000000:=by rw[Ea,ed];omega
def aaE{A:aA->Int}{w:List aA}{k n:Nat}{x:D aQ}(h:n<=100):(dP A w k n).length+ [x].length<=1000000000:=by rw[AR,ed];omega
def SU{A:aA->Int}{w:List aA}{i k:Nat}{x:D aJ}(h:k<=100):(eZ A w (bh i k)).length+ [x].length<=1000000000:=XA (cz (Nat.min_le_right i k) h)
def Ad{e:D aC}(h:(dM e).2.isNil=φ):bF e=0/\(dM e).1=dQ e:=by
 have hf:bF e=0:=by
  apply aq;intro hf;unfold dM at h;rw[π hf]at h;exact hf (aZ.1 h)
 exact⟨hf,by unfold dM;rw[ε (not_not_intro hf)]⟩
def XB{e:D aC}(h:(dM e).2.isNil=φ):(dM e).1.length<=2753:=by
 obtain⟨hf,ht⟩:=Ad h;rw[ht];unfold dQ;have:=(kZ hf).B3 e.2.2.1.length;rw[a7];unfold tC;simp;omega
end Go.Mrl

