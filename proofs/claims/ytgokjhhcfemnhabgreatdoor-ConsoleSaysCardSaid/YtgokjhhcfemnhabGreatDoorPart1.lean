/- A part of the proof that the law ConsoleSaysCard holds of the given program: facts that are used there. -/
import Derived.Test.YtgokjhhcfemnhabGreatDoorPart0
import Derived.Maps.RangeRun
import Derived.Laws.BytesString
import Derived.Lib.ConvBytes
import Derived.Deep.LoopGhost
import Derived.ProofKit
import Derived.KernelRfl
set_option linter.unusedSimpArgs false
set_option linter.unusedVariables false
set_option linter.defProp false
noncomputable section
open True renaming intro->aa
open Nat renaming beq->ab,eq_of_beq_eq_true->ag,le_refl->ai,blt->ao,zero_add->aw,lt_of_lt_of_le->ay,lt_or_ge->a7,beq_refl->bg,add_mul->b9,testBit_two_pow->cd,testBit_or->cf,beq_eq->ch,testBit_and->cj,mul_le_mul_right->cu,mul_one->cy,add_zero->cz,one_shiftLeft->c7,le_of_ble_eq_true->dd,eq_of_testBit_eq->eg
open List renaming length->ad,mem_cons->ah,mem_of_getElem?->ax,mem_append->a8,length_append->bh,size_toArray->bu,range->bz,all_eq_true->b3,length_map->ca,append_nil->cp,filter_cons->cr,foldl_cons->cw,all_cons->db,map_congr_left->dc,mapM_cons->de,length_eq_zero_iff->dr,replicate->dx,length_singleton->ed,mem_range->ef,length_cons->eh,range'_succ->ei,range_eq_range'->ej,mem_filterMap->er
open Bool renaming and_eq_true->ae,false_eq_true->az,not_eq_true'->bc,eq_iff_iff->bk,or_eq_true->cg,not_true->ct,and_true->ep
open Go.Sem renaming run_bind->af,run_pure->ak
open Array renaming toList_inj->aj,getD_eq_getD_getElem?->ba,length_toList->b8,toArray_toList->dh,toList_push->dq,size_append->du,toList_map->dy,replicate->en
open Go.Region renaming binds->al,wanted->ar,ready->au,noSelect->ee
open Go.Result renaming andThen_ok->aq
open Go.Instr renaming findNow->av,loadAt->ck,alloc->c6,sureAddr->df,lookup->dk,mapUpdate->dm,keyThatStays->dn,makeFunc->dz
open Go.DataW renaming trod->bd,TrodAll->bf
open Go.Oper renaming wp->bj,upon->c8,wp_mono->da
open Go.MapKept renaming run_getObj_map->bm,run_findKey->bo,run_setObj_map->b5,bytes_beq->dj
open Option renaming map_some->bp,getD_some->bq,bind_eq_some_iff->di,map_eq_some_iff->eo
open Go.ChangeMaps renaming setBlock->br
open Go.Addr renaming add_lit->bt
open Go.Value renaming cells->bw,okWide->cm
open Go.Calls renaming mono->bx
open Go.Cell renaming okWide->b4,ok->cn
open Int.ofNat renaming inj->b6
open Go.Builtin renaming append_->b7,delete_->cq,zeroCells->dt,max2->dv,min2->dw,max_->dT,min_->ec
open Go.IntKind renaming u8->cb
open Int renaming lt_add_one_of_le->dp
open Option.some renaming injEq->ek
open Bool renaming false->ψ,true->φ
open Option renaming some->ξ,none->χ
open Decidable renaming decide->ρ
namespace Go.Vg
open Go.RowKit
def dV(e:Ty):List (D (kK e))->List UInt8->Bool
 |[],_=>ψ
 |y :: r,k=>if y.1=k then φ else dV e r k
def kL(e:Ty):List (D (kK e))->List UInt8->D e
 |[],_=>cD e
 |y :: r,k=>if y.1=k then y.2.1 else kL e r k
def hU(e:Ty):List (D (kK e))->List UInt8->D e->Int->List (D (kK e))
 |[],k,v,c=>[(k,v,c,())]
 |y :: r,k,v,c=>if y.1=k then(k,v,y.2.2) :: r else y :: hU e r k v c
def iW(e:Ty):List (D (kK e))->List UInt8->List (D (kK e))
 |[],_=>[]
 |y :: r,k=>if y.1=k then r else y :: iW e r k
def rQ(e:Ty)(es:List (D (kK e)))(k:List UInt8)(c:Int):Int:=if dV e es k=φ then c else c+1
def AF(e:Ty):List (D (kK e))->Int->D (kK e)
 |[],_=>cD (kK e)
 |y :: r,s=>if y.2.2.1=s then y else AF e r s
def uH(e:Ty):List (D (kK e))->Int->Bool
 |[],_=>ψ
 |y :: r,s=>if y.2.2.1=s then φ else uH e r s
def lr(e:Ty)(es:List (D (kK e)))(seen:List Int):List (D (kK e)):=es.filter fun y =>!(seen.contains y.2.2.1)
def rR(l:List Int):Int:=l.getLastD 0
def vt(cx:Cx)(st:St)(t:TypeId)(c:C)(K:(e:Ty)->Nat->D (jY e)->VC):VC:=
 match c with
 |.fS n=>match look cx.vo t with
  |some (_,te)=>match look cx.τ te,look st.aK n with
   |some e,ξ (.ext 1 t' x)=>match h:Ty.beq t' (jY e),e.one with
    |true,ψ=>K e n (dC h x)
    |_,_ =>.ff
   |_,_ =>.ff
  |none =>.ff
 |_ =>.ff
def ajR:Ty->Option Ty
 |.prod (.slice (.prod _ (.prod e _))) _=>ξ e
 |_=>χ
def Ge(st:St)(c:C)(K:(e:Ty)->Nat->List C->List Int->Int->D (jY e)->VC):VC:=
 match c with
 |.fS k=>match look st.aK k with
  |some (.iter [.fS n] seen cl)=>match look st.aK n with
   |some (.ext 1 t' x)=>match ajR t' with
    |some e=>match h:Ty.beq t' (jY e)with
     |true=>K e k [.fS n] seen cl (dC h x)
     |false =>.ff
    |none =>.ff
   |_ =>.ff
  |_ =>.ff
 |_ =>.ff
def Zc(st:St)(c:C)(K:SV->St->VC):VC:=
 Ge st c fun e k cs seen cl d =>.and (d.2.1=cl) (.both
  (.imp (lr e d.1 seen=[]) (K (.pD [.one (.lit ψ)]) st))
  (.all (D (kK e)) fun y =>.imp (y∈lr e d.1 seen) (K (.pD [.one (.lit φ),.one (.d .str y.1),.one (.d e y.2.1)]) (setObj st k (.iter cs (seen++[y.2.2.1]) cl)))))
def Gf(cx:Cx)(st:St)(o:Oper)(K:SV->St->VC):Option VC:=
 match o.op with
 |.makeMap t χ=>ξ (match look cx.vo t with
  |some (_,te)=>match look cx.τ te with
   |some e=>match e.gI with
    |true=>K (.s (.one (.fS st.next))) (fresh st (.ext 1 (jY e) ([],0,())))
    |false =>.ff
   |none =>.ff
  |none =>.ff)
 |.lookup t m x φ=>ξ (vt cx st t (fC st.env m) fun e _ d=>match wh .str (fC st.env x)with
  |some k=>K (.pD [.one (.d e (kL e d.1 k)),.one (.d .bool (dV e d.1 k))]) st
  |none =>.ff)
 |.mapUpdate t m x v=>ξ (vt cx st t (fC st.env m) fun e n d=>match wh .str (fC st.env x),uj e (uz st.env v)with
  |some k,ξ y =>.and (d.1.length<aG) (K (.s (.one .any)) (setObj st n (.ext 1 (jY e) (hU e d.1 k y d.2.1,rQ e d.1 k d.2.1,()))))
  |_,_ =>.ff)
 |.range t m=>ξ (vt cx st t (fC st.env m) fun _ n d=>K (.s (.one (.fS st.next))) (fresh st (.iter [.fS n] [] d.2.1)))
 |.next it ψ=>ξ (Zc st (fC st.env it) K)
 |.entry it=>ξ (Ge st (fC st.env it) fun e _ _ seen cl d =>.and (d.2.1=cl) (.and (seen≠[]) (.and (uH e d.1 (rR seen)=φ)
   (K (.pD [.one (.d .str (AF e d.1 (rR seen)).1),.one (.d e (AF e d.1 (rR seen)).2.1)]) st))))
 |.call c=>match c.callee with
  |.builtin .delete=>match c.args.toList,c.argTypes.toList with
   |[m,x],t :: _=>ξ (vt cx st t (fC st.env m) fun e n d=>match wh .str (fC st.env x)with
    |some k=>K (.s (.one .any)) (setObj st n (.ext 1 (jY e) (iW e d.1 k,d.2.1,())))
    |none =>.ff)
   |_,_=>ξ .ff
  |.builtin .len=>match c.args.toList,c.argTypes.toList with
   |[x],[t]=>match look cx.vo t with
    |some _=>ξ (vt cx st t (fC st.env x) fun _ _ d=>K (.s (.one (.d (.int .i64) (d.1.length:Int)))) st)
    |none=>χ
   |_,_=>χ
  |_=>χ
 |_=>χ
def xN{e:Ty}{e1 e2:TypeId}{x:D e}{A A':aO}{w w':World}{v:Value}(hs:e.gI=φ)(h:VR e1 e x A w v):VR e2 e x A' w' v:=by
 unfold VR at h ⊢;by_cases c:e.one=φ
 ·rw[π c]at h ⊢;exact mq hs h
 ·rw[ε c]at h ⊢;obtain⟨cs,h1,h2⟩:=h;exact⟨cs,h1,mq hs h2⟩
def EC.to{e:Ty}(hs:e.gI=φ){y:D (kK e)}{m:MapEntry}{w w':World}(h:EC e y m w):EC e y m w':=⟨h.key,xN hs h.val,h.born⟩
def lq.to{e:Ty}(hs:e.gI=φ){w w':World}:∀{x:List (D (kK e))} {ms:List MapEntry},lq e x ms w->lq e x ms w'
 |[],[],_=>trivial
 |_ :: _,_ :: _,⟨h1,h2⟩=>⟨h1.to hs,h2.to hs⟩
 |[],_ :: _,h=>h.elim
 |_ :: _,[],h=>h.elim
def lq.len{e:Ty}{w:World}:∀{x:List (D (kK e))} {ms:List MapEntry},lq e x ms w->x.length=ms.length
 |[],[],_=>rfl
 |_ :: _,_ :: _,⟨_,h2⟩=>by simp[h2.len]
 |[],_ :: _,h=>h.elim
 |_ :: _,[],h=>h.elim
def w8.inside{t:Ty}{x:D t}{l:Loc}{w:World}(h:w8 t x l w):∀b∈l.bs,b<w.heap.size:=by
 obtain⟨e,_,b,es,gF,hm⟩:=h;intro b' hb';rw[hm.bs]at hb';simp at hb';subst hb';exact(Array.getElem?_eq_some_iff.1 hm.heap).1
def w8.frame{t:Ty}{x:D t}{l:Loc}{w w':World}(h:w8 t x l w)(hb:∀b∈l.bs,w'.heap[b]?=w.heap[b]?):w8 t x l w':=by
 obtain⟨e,ht,b,es,gF,hm⟩:=h;exact⟨e,ht,b,es,gF,hm.gI,hm.lv,hm.bs,by rw[hb b (by rw[hm.bs];simp)];exact hm.heap,hm.gF,hm.w7.to hm.gI,hm.aG,hm.old⟩
def ag2(a b:List UInt8):((⟨a.toArray⟩:ByteArray) == ⟨b.toArray⟩)=ρ (a=b):=by
 rw[bk,dj];simp
def wm{e:Ty}{w:World}{k:List UInt8}(hk:k.length<=aG):∀{x:List (D (kK e))} {ms:List MapEntry} (i:Nat),lq e x ms w->
  (dV e x k=ψ/\kL e x k=cD e/\av .string (.string ⟨k.toArray⟩) ms i=ξ χ/\(∀v c,hU e x k v c=x++[(k,v,c,())])/\iW e x k=x)\/
  (dV e x k=φ/\∃j m,ms[j]?=ξ m/\av .string (.string ⟨k.toArray⟩) ms i=ξ (ξ (i+j,m.val))/\VR 0 e (kL e x k) NoA w m.val/\m.key=.string ⟨k.toArray⟩/\
   (∀v u c,VR 0 e v NoA w u->lq e (hU e x k v c) (ms.set j {m with key:=.string ⟨k.toArray⟩,val:=u}) w)/\(∀v c,(hU e x k v c).length=x.length)/\(∀v c,∀y∈hU e x k v c,∃y'∈x,y.2.2.1=y'.2.2.1)/\
   lq e (iW e x k) (ms.eraseIdx j) w/\(∀y∈iW e x k,y∈x)/\(iW e x k).length<=x.length)
 |[],[],i,_ =>.inl ⟨rfl,rfl,rfl,fun _ _=>rfl,rfl⟩
 |y :: r,m :: ms,i,⟨h1,h2⟩=>by
  have hkey:Instr.sameNow .string (.string ⟨k.toArray⟩) m.key=ξ (ρ (y.1=k)):=by
   rw[h1.key.1];show ξ _=_;rw[ag2];congr 1;rw[bk];simp[eq_comm]
  by_cases c:y.1=k
  ·right
   refine⟨by simp[dV,c],0,m,rfl,by simp[av,hkey,c],by simp[kL,c];exact h1.val,by rw[h1.key.1,c],fun v u cc hv =>?_,fun v cc =>?_,fun v cc y' hy' =>?_,?_,fun y' hy' =>?_,?_⟩
   ·rw[hU,π c];exact⟨⟨⟨rfl,hk⟩,hv,h1.born⟩,h2⟩
   ·rw[hU,π c];rfl
   ·rw[hU,π c]at hy'
    rcases ah.1 hy' with rfl|hy'
    ·exact⟨y,ς,rfl⟩
    ·exact⟨y',by simp[hy'],rfl⟩
   ·rw[iW,π c];exact h2
   ·rw[iW,π c]at hy';simp[hy']
   ·rw[iW,π c];simp
  ·rcases wm hk (i+1) h2 with⟨k1,k2,k3,k4,k5⟩|⟨k1,j,m',k2,k3,k4,k5,k6,k7,k8,k9,k10,k11⟩
   ·left
    refine⟨by simp[dV,c,k1],by simp[kL,c,k2],by simp[av,hkey,c,k3],fun v cc=>by simp[hU,c,k4],by simp[iW,c,k5]⟩
   ·right
    refine⟨by simp[dV,c,k1],j+1,m',by simpa using k2,by simp[av,hkey,c,k3];omega,by simpa[kL,c]using k4,k5,fun v u cc hv =>?_,fun v cc =>?_,fun v cc y' hy' =>?_,?_,fun y' hy' =>?_,?_⟩
    ·rw[hU,ε c];exact⟨h1,k6 v u cc hv⟩
    ·rw[hU,ε c];simp[k7]
    ·rw[hU,ε c]at hy'
     rcases ah.1 hy' with rfl|hy'
     ·exact⟨y',ς,rfl⟩
     ·obtain⟨y2,h3,h4⟩:=k8 v cc y' hy'
      exact⟨y2,by simp[h3],h4⟩
    ·rw[iW,ε c];exact⟨h1,k9⟩
    ·rw[iW,ε c]at hy'
     rcases ah.1 hy' with rfl|hy'
     ·simp
     ·simp[k10 y' hy']
    ·rw[iW,ε c];simp;omega
 |[],_ :: _,_,h=>h.elim
 |_ :: _,[],_,h=>h.elim
def lq.snoc{e:Ty}{w:World}{y:D (kK e)}{m:MapEntry}(hy:EC e y m w):∀{x:List (D (kK e))} {ms:List MapEntry},lq e x ms w->lq e (x++[y]) (ms++[m]) w
 |[],[],_=>⟨hy,aa⟩
 |_ :: _,_ :: _,⟨h1,h2⟩=>⟨h1,h2.snoc hy⟩
 |[],_ :: _,h=>h.elim
 |_ :: _,[],h=>h.elim
section
variable{X:Ext}{P:Program}{cx:Cx}
def JH{O:aO}{st:St}{loc:Nat->Loc}{w w':World}{n b:Nat}{oc oc':OC}(g:Good cx.eT X (aD O st loc w))(hO:gx O w)
  (hob:look st.aK n=ξ oc)(js:(loc n).bs=[b])(hk:bL (loc n) (loc n) oc oc')(h0:oc.lo=0)(h0':oc'.lo=0)(hos:w'.os=w.os)(hout:w'.output=w.output)(hsz:w'.heap.size=w.heap.size)
  (hoth:∀b',b'≠b->w'.heap[b']?=w.heap[b']?) :
  Tr (aD O st loc w) (aD O (setObj st n oc') loc w')/\
   (OR cx.eT X (aD O (setObj st n oc') loc w') (loc n) oc'->Good cx.eT X (aD O (setObj st n oc') loc w')):=by
 refine sx (S:=aD O st loc w) (S':=aD O (setObj st n oc') loc w') (n:=n) (oc:=oc) (oc':=oc') (l':=loc n) g rfl hO hob
  (fun m=>rb st n m oc') (fun m =>?_) rfl (fun _=>qS rfl) hk hos hout (by simp[aD,hsz]) ?_ ?_ ?_
 ·show loc m=_
  by_cases e:n=m
  ·rw[π e,e]
  ·rw[ε e];rfl
 ·intro b' _ hb'
  exact hoth b' (fun e=>hb' (by simp only[aD];rw[js,e];simp))
 ·intro b' o v _ ho;rw[h0]at ho;omega
 ·intro b' hb';exact .inl ⟨hb',ω⟩
structure agx (cx:Cx) (P:Program) (S:bT) (st:St) (t:TypeId) (v:Value) (e:Ty) (n:Nat) (d:D (jY e)) where
 kt:TypeId
 te:TypeId
 b:Nat
 es:Array MapEntry
 gF:Nat
 jZ:P.underlying t=ξ (.map kt te)
 key:P.underlying kt=ξ .string
 fit:look cx.τ te=ξ e
 one:e.one=ψ
 ob:S.ob n=ξ (.ext 1 (jY e) d)
 val:v=.map (ξ b)
 md:NB e d (S.loc n) S.w b es gF
 zero:∃i cs,P.info? te=ξ i/\i.zero=ξ (.agg cs)
def Ue{e:Ty}{x:D (jY e)}{l:Loc}{w:World}(h:w8 (jY e) x l w):∃b es gF,NB e x l w b es gF:=by
 obtain⟨e',he,h⟩:=h;have:e=e':=by injection he with h1 _;injection h1 with h1;injection h1 with _ h1;injection h1
 subst this;exact h
theorem rS(hok:TyOK P cx){O:aO}{st:St}{loc:Nat->Loc}{w:World}(g:Good cx.eT X (aD O st loc w)){t:TypeId}{c:C}{v:Value}{K:(e:Ty)->Nat->D (jY e)->VC}(hc:CR cx.eT (aD O st loc w) c v)
  (h:(vt cx st t c K).holds):∃e n d,(K e n d).holds/\Nonempty (agx cx P (aD O st loc w) st t v e n d):=by
 unfold vt at h;split at h
 case h_2=>exact h.elim
 rename_i n;split at h
 case h_2=>exact h.elim
 rename_i kt te hm;obtain⟨h1,h2,h3⟩:=hok.vo _ _ _ hm;split at h
 case h_2=>exact h.elim
 rename_i e t' x hte hob;split at h
 case h_2=>exact h.elim
 rename_i hb ho;have:=Ty.eq_of_beq hb;subst this;obtain⟨b,es,gF,hd⟩:=Ue (X.map.1 (g.obj _ _ hob).2);exact⟨e,n,_,h,⟨⟨kt,te,b,es,gF,h1,h2,hte,ho,by rw[l7];exact hob,(hc.2 _ hob rfl).trans hd.lv,by rw[l7];exact hd,h3⟩⟩⟩
def IM{S:bT}{c:C}{k:List UInt8}{v:Value}(h:wh .str c=ξ k)(hc:CR cx.eT S c v):v=.string ⟨k.toArray⟩/\k.length<=aG:=by
 have:=VR.one rfl (sA h hc);obtain⟨h1,h2⟩:=this;exact⟨by simpa using h1,h2⟩
def Bf{kt:TypeId}(hk:P.underlying kt=ξ .string)(em:Bool)(s:ByteArray)(w:World):(Instr.checkKey em 10000 kt (.string s)).run P w=.ok () w:=
 Go.MapKept.run_checkKey (d:=.string) hk (by simp[Go.MapKept.IsKey]) em 9999
def wo{t kt te:TypeId}(hu:P.underlying t=ξ (.map kt te))(hk:P.underlying kt=ξ .string){w:World}{b gF:Nat}{es:Array MapEntry}(hb:w.heap[b]?=ξ (.map es gF)){s:ByteArray}{r:Option (Nat×Value)}
  (hr:av .string (.string s) es.toList 0=ξ r){z:Value}(hz:(zeroValue te).run P w=.ok z w) :
  (dk t (.map (ξ b)) (.string s) φ).run P w=.ok (.tuple #[match r with|some (_,v)=>v|none=>z,.bool r.isSome]) w:=by
 unfold dk;simp only[af,run_underlying hu,aq,bm hb,Bf hk,ak,bo hk hr];cases r with
 |none=>simp[hz]
 |some p=>rfl
def Wd:∀{e:Ty},e.gI=φ->tn e=φ:=by
 intro e;induction e with
 |prod a b iha ihb=>intro h;simp[Ty.gI]at h;simp[tn,iha h.1,ihb h.2]
 |slice e _=>intro h;simp[Ty.gI]at h
 |gu=>intro h;simp[Ty.gI]at h
 |err=>intro h;simp[Ty.gI]at h
 |_=>intro _;rfl
def adJ(hok:TyOK P cx){S:bT}{st:St}{t:TypeId}{v:Value}{e:Ty}{n:Nat}{d:D (jY e)}(m:agx cx P S st t v e n d)(w:World):∃z,(zeroValue m.te).run P w=.ok z w/\∀eT A w',VR eT e (cD e) A w' z:=by
 obtain⟨_,ti,_,hf,_⟩:=gL hok m.fit;obtain⟨z,hz,hzr⟩:=hf.zero;obtain⟨i,cs,hi,hc⟩:=m.zero;rw[hf.info]at hi;cases hi;rw[hz]at hc;cases hc;have hno:=Wd m.md.gI;refine⟨.agg cs,by simp[zeroValue,typeInfo,hf.info,hz],fun eT A w' =>?_⟩;unfold VR;rw[ε (by rw[m.one];simp)];exact⟨cs,rfl,F9 hzr hno⟩
def M4{es:Array MapEntry}{j:Nat}{m:MapEntry}(f:MapEntry->MapEntry)(h:es.toList[j]?=ξ m):(es.modify j f).toList=es.toList.set j (f m):=by
 have h':es[j]?=ξ m:=by rw[<-Array.getElem?_toList];exact h
 rw[Array.toList_modify];exact Go.ChangeMaps.modify_eq_set f es.toList j m h
def wq{t kt te:TypeId}(hu:P.underlying t=ξ (.map kt te))(hk:P.underlying kt=ξ .string){w:World}{b gF:Nat}{es:Array MapEntry}(hb:w.heap[b]?=ξ (.map es gF)){s:ByteArray}{v:Value}
  {es':Array MapEntry}{clk':Nat}(h:(av .string (.string s) es.toList 0=ξ χ/\es'=es.push {key:=.string s,val:=v,born:=gF}/\clk'=gF+1)\/
   ∃j m,av .string (.string s) es.toList 0=ξ (ξ (0+j,m.val))/\es.toList[j]?=ξ m/\m.key=.string s/\es'=es.modify j (fun e=>{e with key:=.string s,val:=v})/\clk'=gF) :
  (dm t (.map (ξ b)) (.string s) v).run P w=.ok () {w with heap:=w.heap.setIfInBounds b (.map es' clk')}:=by
 unfold dm;simp only[af,run_underlying hu,aq,bm hb,Bf hk];rcases h with⟨h1,rfl,rfl⟩|⟨j,m,h1,h2,h3,rfl,rfl⟩
 ·rw[bo hk h1]
  simp only[aq];exact b5 _ hb
 ·rw[bo hk h1]
  have hm:es[j]?=ξ m:=by rw[<-Array.getElem?_toList];exact h2
  have hs:(dn (.string s) (.string s)).run P w=.ok (.string s) w:=by
   unfold dn;rw[π (by simp only[Instr.sameBits];exact(dj s s).2 rfl)];rfl
  simp only[aq,aw,hm,bp,bq,h3,af,hs];exact b5 _ hb
def wu{t kt te ty:TypeId}{ats:Array TypeId}(hat:ats[0]?=ξ t)(hu:P.underlying t=ξ (.map kt te))(hk:P.underlying kt=ξ .string){w:World}{b gF:Nat}{es:Array MapEntry}(hb:w.heap[b]?=ξ (.map es gF)){s:ByteArray}
  {es':Array MapEntry}(h:(av .string (.string s) es.toList 0=ξ χ/\es'=es)\/∃j v,av .string (.string s) es.toList 0=ξ (ξ (0+j,v))/\es'=es.eraseIdxIfInBounds j) :
  (cq ats ty #[.map (ξ b),.string s]).run P w=.ok (.tuple #[]) {w with heap:=w.heap.setIfInBounds b (.map es' gF)}:=by
 unfold cq;simp only[hat,List.getElem?_toArray,List.getElem?_cons_zero,List.getElem?_cons_succ,af,run_underlying hu,aq,bm hb,Bf hk];rcases h with⟨h1,rfl⟩|⟨j,v,h1,rfl⟩
 ·rw[bo hk h1]
  simp only[aq,af,b5 _ hb,ak]
 ·rw[bo hk h1]
  simp only[aq,aw,af,b5 _ hb,ak]
def adK{w:World}{b:Nat}{o:Obj}(hb:b<w.heap.size):({w with heap:=w.heap.setIfInBounds b o}:World).heap[b]?=ξ o:=by
 simp[hb]
def Sd{w:World}{b b':Nat}{o:Obj}(h:b'≠b):({w with heap:=w.heap.setIfInBounds b o}:World).heap[b']?=w.heap[b']?:=by
 simp only[Array.getElem?_setIfInBounds];rw[ε (fun e=>h e.symm)]
def map_set{O:aO}{st:St}{loc:Nat->Loc}{w:World}(g:Good cx.eT X (aD O st loc w))(hO:gx O w){e:Ty}{n b gF clk':Nat}{es es':Array MapEntry}{d:D (jY e)}
  (hob:look st.aK n=ξ (.ext 1 (jY e) d))(hm:NB e d (loc n) w b es gF){xs:List (D (kK e))}{c':Int}(hc:c'=(clk':Int))(hents:lq e xs es'.toList w)(hbig:xs.length<=aG)(hold:∀y∈xs,y.2.2.1<c') :
  Tr (aD O st loc w) (aD O (setObj st n (.ext 1 (jY e) (xs,c',()))) loc {w with heap:=w.heap.setIfInBounds b (.map es' clk')})/\
   Good cx.eT X (aD O (setObj st n (.ext 1 (jY e) (xs,c',()))) loc {w with heap:=w.heap.setIfInBounds b (.map es' clk')}):=by
 have hlt:b<w.heap.size:=(Array.getElem?_eq_some_iff.1 hm.heap).1;obtain⟨t1,g1⟩:=JH (w':={w with heap:=w.heap.setIfInBounds b (.map es' clk')}) (oc':=.ext 1 (jY e) (xs,c',())) g hO hob hm.bs ⟨rfl,rfl⟩ rfl rfl rfl rfl ς (fun b' hb'=>Sd hb');exact⟨t1,g1 (X.map.2 ⟨e,rfl,b,es',clk',hm.gI,hm.lv,hm.bs,adK hlt,hc,hents.to hm.gI,hbig,hold⟩)⟩
def adL{e:Ty}{xs:List (D (kK e))}{k:List UInt8}{v:D e}{c:Int}(h1:dV e xs k=ψ)(h2:∀v c,hU e xs k v c=xs++[(k,v,c,())])(hold:∀y∈xs,y.2.2.1<c):∀y∈hU e xs k v c,y.2.2.1<rQ e xs k c:=by
 intro y hy;rw[h2]at hy;unfold rQ;rw[h1];simp only[az,if_false];rcases a8.1 hy with hy|hy
 ·have h3:(y.2.2.1:Int)<c:=hold y hy
  exact dp (Int.le_of_lt h3)
 ·simp at hy;subst hy;exact dp (Int.le_refl _)
def Uf{e:Ty}{w:World}:∀{x:List (D (kK e))} {ms:List MapEntry} {s:Nat},lq e x ms w->uH e x (s:Int)=φ->∃m,ms.find? (fun m=>m.born == s)=ξ m/\EC e (AF e x (s:Int)) m w
 |y :: r,m :: ms,s,⟨h1,h2⟩,hb=>by
  by_cases c:m.born=s
  ·have c':y.2.2.1=(s:Int):=by rw[h1.born,c]
   exact⟨m,by simp[c],by rw[AF,π c'];exact h1⟩
  ·have c':¬y.2.2.1=(s:Int):=fun h=>c (b6 (h1.born.symm.trans h))
   rw[uH,ε c']at hb;obtain⟨m',h3,h4⟩:=Uf h2 hb;exact⟨m',by simp[c,h3],by rw[AF,ε c'];exact h4⟩
 |[],[],_,_,hb=>by simp[uH]at hb
def JI{e:Ty}{w:World}{sn:Array Nat}:∀{x:List (D (kK e))} {ms:List MapEntry},lq e x ms w->lq e (lr e x (sn.toList.map fun(n:Nat)=>(n:Int))) (ms.filter fun m =>!sn.contains m.born) w
 |[],[],_=>trivial
 |y :: r,m :: ms,⟨h1,h2⟩=>by
  have hc:(sn.toList.map fun(n:Nat)=>(n:Int)).contains y.2.2.1=sn.contains m.born:=by
   rw[bk,h1.born];simp only[List.contains_iff_mem,List.mem_map,Array.mem_toList_iff,Array.contains_iff_mem];exact⟨fun⟨a,h3,h4⟩=>by rw[<-b6 h4];exact h3,fun h=>⟨_,h,rfl⟩⟩
  have ih:=JI (sn:=sn) h2;unfold lr at ih ⊢;rw[cr,cr,hc];cases sn.contains m.born with
  |true=>simp only[ct,az,if_false];exact ih
  |false=>simp only[Bool.not_false,if_true];exact⟨h1,ih⟩
 |[],_ :: _,h=>h.elim
 |_ :: _,[],h=>h.elim
def ET{e:Ty}{w:World}:∀{x:List (D (kK e))} {ms:List MapEntry} {m:MapEntry},lq e x ms w->m∈ms->∃y∈x,EC e y m w
 |y :: _,_ :: _,m,⟨h1,h2⟩,hm=>by
  rcases ah.1 hm with rfl|hm
  ·exact⟨y,ς,h1⟩
  ·obtain⟨y',h3,h4⟩:=ET h2 hm
   exact⟨y',by simp[h3],h4⟩
 |[],[],_,_,hm=>by simp at hm
structure aiJ (S:bT) (v:Value) (e:Ty) (k:Nat) (cs:List C) (seen:List Int) (cl:Int) (d:D (jY e)) where
 n:Nat
 b:Nat
 r:Nat
 es:Array MapEntry
 gF:Nat
 c:Nat
 sn:Array Nat
 ob:S.ob n=ξ (.ext 1 (jY e) d)
 it:S.ob k=ξ (.iter cs seen cl)
 val:v=.pointer (ξ ⟨r,0,χ⟩)
 md:NB e d (S.loc n) S.w b es gF
 hr:S.w.heap[r]?=ξ (.mapIter (ξ b) c sn c)
 ik:cl=(c:Int)
 JJ:seen=sn.toList.map fun(n:Nat)=>(n:Int)
 js:(S.loc k).bs=[r]
 hlv:(S.loc k).v=.pointer (ξ ⟨r,0,χ⟩)
theorem Gg{O:aO}{st:St}{loc:Nat->Loc}{w:World}(g:Good cx.eT X (aD O st loc w)){c:C}{v:Value}{K:(e:Ty)->Nat->List C->List Int->Int->D (jY e)->VC}(hc:CR cx.eT (aD O st loc w) c v)
  (h:(Ge st c K).holds):∃e k cs seen cl d,(K e k cs seen cl d).holds/\(∃m,cs=[.fS m])/\Nonempty (aiJ (aD O st loc w) v e k cs seen cl d):=by
 unfold Ge at h;split at h
 case h_2=>exact h.elim
 rename_i k;split at h
 case h_2=>exact h.elim
 rename_i n seen cl hk;split at h
 case h_2=>exact h.elim
 rename_i t' x hob;split at h
 case h_2=>exact h.elim
 rename_i e hun;split at h
 case h_2=>exact h.elim
 rename_i hb;have:=Ty.eq_of_beq hb;subst this;obtain⟨b,es,gF,hd⟩:=Ue (X.map.1 (g.obj _ _ hob).2);obtain⟨r,m,c,sn,h1,h2,h3,h4,h5,h6⟩:=(g.obj _ _ hk).2;have hmb:m=b:=by
  cases h4 with
  |cons h7 _ _=>
   have:=(h7.2 _ hob rfl).trans hd.lv;cases this;rfl
 subst hmb;exact⟨e,k,_,seen,cl,_,h,⟨n,rfl⟩,⟨⟨n,m,r,es,gF,c,sn,by rw[l7];exact hob,hk,(hc.2 _ hk rfl).trans h1,by rw[l7];exact hd,h3,h5,h6,h2,h1⟩⟩⟩
def N0{S:bT}{eT:TypeId}{y:List UInt8}{v:Value}(h:v=.string ⟨y.toArray⟩/\y.length<=aG):jR eT S (.one (.d .str y)) v:=by
 show VR eT .str y S.A S.w v;rw[h.1];exact VR.dF rfl ⟨rfl,h.2⟩
def ag3{S:bT}{eT:TypeId}{n:Nat}(h:n<=aG):eK eT S (.s (.one (.d (.int .i64) (n:Int)))) (.int .i64 (n:Int)):=by
 show VR eT (.int .i64) (n:Int) S.A S.w _;refine VR.dF rfl ⟨rfl,?_⟩;rw[NA]at h;show(-9223372036854775808:Int)<=(n:Int)/\(n:Int)<=9223372036854775807;omega
def N1{S:bT}{eT:TypeId}{x b:Bool}(h:x=b):jR eT S (.one (.d .bool x)) (.bool b):=by
 subst h;show VR eT .bool x S.A S.w (.bool x);exact VR.dF rfl rfl
def Se(hok:TyOK P cx){O:aO}{st:St}{loc:Nat->Loc}{w:World}{a:Act}(g:Good cx.eT X (aD O st loc w))(hO:gx O w)(he:iP cx.eT (aD O st loc w) st.env a)
  {o:Oper}{K:SV->St->VC}{vc:VC}(hm:Gf cx st o K=ξ vc)(h:vc.holds) :
  ∃sv v st' loc' w',(K sv st').holds/\st'.env=st.env/\Good cx.eT X (aD O st' loc' w')/\Tr (aD O st loc w) (aD O st' loc' w')/\eK cx.eT (aD O st' loc' w') sv v/\
   ((execOp a.eval o).run P w=.ok (.value v) w'\/((execOp a.eval o).run P w=.ok .skip w'/\sv=.s (.one .any))):=by
 unfold Gf at hm;split at hm
 ·rename_i t hop
  cases hm;split at h
  case h_2=>exact h.elim
  rename_i k te hmp;split at h
  case h_2=>exact h.elim
  rename_i e hte;split at h
  case h_2=>exact h.elim
  rename_i hs;have hb:Below w.heap.size w (w.alloc (.map #[] 0)):=(Below.refl _ w).alloc (ai _) _;obtain⟨tr1,g1⟩:=jg (oc:=.ext 1 (jY e) ([],0,())) (l:=⟨.map (ξ w.heap.size),[w.heap.size]⟩) g hO hb ς;have g1:=g1 (X.map.2 ⟨e,rfl,w.heap.size,#[],0,hs,rfl,rfl,heap_alloc_new w _,rfl,aa,ς,fun y hy=>by simp at hy⟩);refine⟨_,.map (ξ w.heap.size),_,_,_,h,rfl,g1,tr1,⟨by show st.next<st.next+1;omega,fun oc hoc _=>by simp[aD,cK]⟩,.inl ?_⟩;simp[execOp,hop,Instr.makeMap]
 ·rename_i t m x hop
  cases hm;obtain⟨e,n,d,h1,⟨M⟩⟩:=rS (P:=P) hok g (cB he m) h;split at h1
  case h_2=>exact h1.elim
  rename_i k hk;obtain⟨hv,hl⟩:=IM hk (cB he x);obtain⟨z,hz,hzr⟩:=adJ hok M w;rcases wm hl 0 M.md.w7 with⟨k1,k2,k3,k4,k5⟩|⟨k1,j,m',k2,k3,k4,k5,_⟩
  ·refine⟨_,.tuple #[z,.bool ψ],st,loc,w,h1,rfl,g,Tr.refl _,⟨[z,.bool ψ],rfl,.cons (by rw[k2];exact hzr _ _ _) (.cons (N1 k1) .nil)⟩,.inl ?_⟩
   have hrun:=wo (w:=w) M.jZ M.key M.md.heap k3 hz;simp only[execOp,hop,af,M.val,hv];rw[hrun];rfl
  ·refine⟨_,.tuple #[m'.val,.bool φ],st,loc,w,h1,rfl,g,Tr.refl _,⟨[m'.val,.bool φ],rfl,.cons (xN M.md.gI k4) (.cons (N1 k1) .nil)⟩,.inl ?_⟩
   have hrun:=wo (w:=w) M.jZ M.key M.md.heap k3 hz;simp only[execOp,hop,af,M.val,hv];rw[hrun];rfl
 ·rename_i t m x v hop
  cases hm;obtain⟨e,n,d,h1,⟨M⟩⟩:=rS (P:=P) hok g (cB he m) h;split at h1
  case h_2=>exact h1.elim
  rename_i k y hk hy;obtain⟨hbig,h1⟩:=h1;obtain⟨hv,hl⟩:=IM hk (cB he x);have hvy:VR 0 e y NoA w (a.eval v):=xN M.md.gI (oz hy (nT he v));rcases wm hl 0 M.md.w7 with⟨k1,k2,k3,k4,k5⟩|⟨k1,j,m',k2,k3,k4,k5,k6,k7,k8,_⟩
  ·obtain⟨t1,g1⟩:=map_set (es':=M.es.push {key:=.string ⟨k.toArray⟩,val:=a.eval v,born:=M.gF}) (clk':=M.gF+1) g hO M.ob M.md (xs:=hU e d.1 k y d.2.1) (c':=rQ e d.1 k d.2.1)
    (by unfold rQ;rw[k1,M.md.gF];rfl) (by rw[k4,dq];exact lq.snoc ⟨⟨rfl,hl⟩,hvy,M.md.gF⟩ M.md.w7) (by rw[k4];simp;omega) (adL k1 k4 M.md.old)
   refine⟨_,.nilFunc,_,loc,_,h1,rfl,g1,t1,aa,.inr ⟨?_,rfl⟩⟩;have hrun:=wq (w:=w) M.jZ M.key M.md.heap (v:=a.eval v) (.inl ⟨k3,rfl,rfl⟩);simp only[execOp,hop,af,M.val,hv];rw[hrun];rfl
  ·obtain⟨t1,g1⟩:=map_set (es':=M.es.modify j (fun e=>{e with key:=.string ⟨k.toArray⟩,val:=a.eval v})) (clk':=M.gF) g hO M.ob M.md (xs:=hU e d.1 k y d.2.1) (c':=rQ e d.1 k d.2.1)
    (by unfold rQ;rw[k1,M.md.gF];rfl) (by rw[M4 _ k2];exact k6 y (a.eval v) _ hvy) (by rw[k7];exact M.md.aG) (fun y' hy'=>by
     obtain⟨y2,h3,h4⟩:=k8 _ _ y' hy';rw[h4];unfold rQ;rw[k1];exact M.md.old y2 h3)
   refine⟨_,.nilFunc,_,loc,_,h1,rfl,g1,t1,aa,.inr ⟨?_,rfl⟩⟩;have hrun:=wq (w:=w) M.jZ M.key M.md.heap (v:=a.eval v) (.inr ⟨j,m',k3,k2,k5,rfl,rfl⟩);simp only[execOp,hop,af,M.val,hv];rw[hrun];rfl
 ·rename_i t m hop
  cases hm;have hc0:=cB he m;obtain⟨e,n,d,h1,⟨M⟩⟩:=rS (P:=P) hok g hc0 h;have hb:Below w.heap.size w (w.alloc (.mapIter (ξ M.b) M.gF #[] M.gF)):=(Below.refl _ w).alloc (ai _) _;obtain⟨tr1,g1⟩:=jg (oc:=.iter [.fS n] [] d.2.1) (l:=⟨.pointer (ξ ⟨w.heap.size,0,χ⟩),[w.heap.size]⟩) g hO hb ς;have hx:CR cx.eT (aD O st loc w) (.fS n) (.map (ξ M.b)):=⟨(g.obj _ _ M.ob).1,fun oc hoc _=>M.md.lv.symm⟩;have g1:=g1 ⟨w.heap.size,M.b,M.gF,#[],rfl,rfl,heap_alloc_new w _,.cons (hx.tr tr1) rfl .nil,M.md.gF,rfl⟩;refine⟨_,.pointer (ξ ⟨w.heap.size,0,χ⟩),_,_,_,h1,rfl,g1,tr1,⟨by show st.next<st.next+1;omega,fun oc hoc _=>by simp[aD,cK]⟩,.inl ?_⟩;have hu:=M.jZ;have hh:w.heap[M.b]?=ξ (.map M.es M.gF):=M.md.heap;have hgo:(getObj M.b).run P w=.ok (.map M.es M.gF) w:=bm hh;simp only[execOp,hop,M.val,Instr.range,af,run_underlying hu,aq,hgo,ak];rfl
 ·rename_i it hop
  cases hm;unfold Zc at h;obtain⟨e,k,cs,seen,cl,d,h1,⟨n0,rfl⟩,⟨M⟩⟩:=Gg g (cB he it) h;obtain⟨ik,h1,h2⟩:=h1;have hcc:M.gF=M.c:=b6 (M.md.gF.symm.trans (ik.trans M.ik));have hold:∀x∈M.es.toList,x.born<M.c:=fun x hx=>by
   obtain⟨y,hy,hyr⟩:=ET M.md.w7 hx;have h3:=M.md.old y hy;rw[hyr.born,M.md.gF,hcc]at h3;exact Int.ofNat_lt.1 h3
  have hleft:lq e (lr e d.1 seen) (leftOf M.es M.sn).toList w:=by
   have:=JI (sn:=M.sn) M.md.w7;rw[<-M.JJ]at this;unfold leftOf;rw[Array.toList_filter];exact this
  have hrl:M.r<w.heap.size:=(Array.getElem?_eq_some_iff.1 M.hr).1;rcases Go.run_next_at (P:=P) w o.type M.r M.b M.c M.c M.sn M.es M.gF M.hr M.md.heap hold (ai _)with⟨h3,h4⟩|⟨m,hm,w1,hw1,h4⟩
  ·have hnil:lr e d.1 seen=[]:=dr.1 (by rw[hleft.len];simpa using h3)
   refine⟨_,.tuple #[.bool ψ],st,loc,w,h1 hnil,rfl,g,Tr.refl _,⟨[.bool ψ],rfl,.cons rfl .nil⟩,.inl ?_⟩;simp only[execOp,hop,M.val,af,h4,aq,ak]
  ·obtain⟨y,hy,hyr⟩:=ET hleft hm
   have hK:=h2 y hy;have e1:w1.heap=w.heap/\w1.os=w.os/\w1.output=w.output:=by rcases hw1 with rfl|rfl <;> exact⟨rfl,rfl,rfl⟩
   obtain⟨t1,g1⟩:=JH (w':=br w1 M.r (.mapIter (ξ M.b) M.c (M.sn.push m.born) M.gF)) (oc':=.iter [.fS n0] (seen++[y.2.2.1]) cl) g hO M.it M.js trivial rfl rfl e1.2.1 e1.2.2
    (by simp[br,e1.1]) (fun b' hb'=>by simp only[br,Array.getElem?_setIfInBounds,e1.1];rw[ε (fun e=>hb' e.symm)])
   have hor:=(g.obj _ _ M.it).2;have hg1:=g1 (by
    obtain⟨r',m0,c0,sn0,q1,q2,q3,q4,q5,q6⟩:=hor;have hmb:m0=M.b:=by
     have hr':r'=M.r:=by have:=M.hlv.symm.trans q1;cases this;rfl
     subst hr';have:=M.hr.symm.trans q3;cases this;rfl
    refine⟨M.r,m0,M.c,M.sn.push m.born,M.hlv,M.js,?_,q4.tr t1,M.ik,?_⟩
    ·show(br w1 M.r _).heap[M.r]?=_
     rw[hmb,hcc];simp only[br,Array.getElem?_setIfInBounds,e1.1];simp[hrl]
    ·rw[dq,List.map_append,<-M.JJ,hyr.born];rfl)
   refine⟨_,.tuple #[.bool φ,m.key,m.val],_,loc,_,hK,rfl,hg1,t1,⟨[.bool φ,m.key,m.val],rfl,.cons rfl (.cons (N0 hyr.key) (.cons (xN M.md.gI hyr.val) .nil))⟩,.inl ?_⟩;simp only[execOp,hop,M.val,af,h4,aq,ak]
 ·rename_i it hop
  cases hm;obtain⟨e,k,cs,seen,cl,d,h1,⟨n0,rfl⟩,⟨M⟩⟩:=Gg g (cB he it) h;obtain⟨ik,hne,hbo,h1⟩:=h1;have hcc:M.gF=M.c:=b6 (M.md.gF.symm.trans (ik.trans M.ik));have JJ:M.sn.toList≠[]:=fun e0=>hne (by rw[M.JJ,e0];rfl)
  have hlast:∃s,M.sn.back?=ξ s/\rR seen=(s:Int):=by
   refine⟨M.sn.toList.getLast JJ,?_,?_⟩
   ·rw[<-Array.getLast?_toList];exact List.getLast?_eq_some_getLast JJ
   ·refine(congrArg rR M.JJ).trans ?_
    unfold rR;rw[List.getLastD_eq_getLast?,List.getLast?_map,List.getLast?_eq_some_getLast JJ];rfl
  obtain⟨s,hs1,hs2⟩:=hlast;rw[hs2]at hbo h1;obtain⟨m,hm1,hm2⟩:=Uf M.md.w7 hbo;refine⟨_,.tuple #[m.key,m.val],st,loc,w,h1,rfl,g,Tr.refl _,⟨[m.key,m.val],rfl,.cons (N0 hm2.key) (.cons (xN M.md.gI hm2.val) .nil)⟩,.inl ?_⟩;have hf:M.es.find? (fun m=>m.born == s)=ξ m:=by rw[<-Array.find?_toList];exact hm1
  have hr:=M.hr;have hb:=M.md.heap;simp only[aD]at hr hb;simp only[execOp,hop,M.val,Instr.entry,getObj,af,Sem.run,hr,hb,Result.andThen,hs1,hcc,bne_self_eq_false,az,if_false,hf];rfl
 ·rename_i c hop
  split at hm
  ·rename_i hcal
   split at hm
   ·rename_i m x t ts harg hty
    cases hm;obtain⟨e,n,d,h1,⟨M⟩⟩:=rS (P:=P) hok g (cB he m) h;split at h1
    case h_2=>exact h1.elim
    rename_i k hk;obtain⟨hv,hl⟩:=IM hk (cB he x);have ha:c.args= #[m,x]:=aj.1 harg;have hat:c.argTypes[0]?=ξ t:=by rw[<-Array.getElem?_toList,hty];rfl
    have fin:∀es':Array MapEntry,lq e (iW e d.1 k) es'.toList w->(iW e d.1 k).length<=aG->(∀y∈iW e d.1 k,y∈d.1)->
      (∀ty,(cq c.argTypes ty #[.map (ξ M.b),.string ⟨k.toArray⟩]).run P w=.ok (.tuple #[]) {w with heap:=w.heap.setIfInBounds M.b (.map es' M.gF)})->
      ∃sv v st' loc' w',(K sv st').holds/\st'.env=st.env/\Good cx.eT X (aD O st' loc' w')/\Tr (aD O st loc w) (aD O st' loc' w')/\eK cx.eT (aD O st' loc' w') sv v/\
       ((execOp a.eval o).run P w=.ok (.value v) w'\/((execOp a.eval o).run P w=.ok .skip w'/\sv=.s (.one .any))):=by
     intro es' h3 h4 h5 h6;obtain⟨t1,g1⟩:=map_set (es':=es') (clk':=M.gF) g hO M.ob M.md (xs:=iW e d.1 k) (c':=d.2.1) M.md.gF h3 h4 (fun y hy=>M.md.old y (h5 y hy));refine⟨_,.tuple #[],_,loc,_,h1,rfl,g1,t1,aa,.inl ?_⟩;simp[execOp,hop,resolve,hcal,ha,invoke,builtin,M.val,hv,h6]
    rcases wm hl 0 M.md.w7 with⟨k1,k2,k3,k4,k5⟩|⟨k1,j,m',k2,k3,k4,k5,k6,k7,k8,k9,k10,k11⟩
    ·exact fin M.es (by rw[k5];exact M.md.w7) (by rw[k5];exact M.md.aG) (fun y hy=>by rw[k5]at hy;exact hy) fun ty=>wu hat M.jZ M.key M.md.heap (.inl ⟨k3,rfl⟩)
    ·have hj:j<M.es.size:=by
      rcases a7 j M.es.toList.length with h'|h'
      ·simpa using h'
      ·rw[List.getElem?_eq_none h']at k2;cases k2
     refine fin (M.es.eraseIdxIfInBounds j) ?_ (Nat.le_trans k11 M.md.aG) k10 fun ty=>wu hat M.jZ M.key M.md.heap (.inr ⟨j,_,k3,rfl⟩)
     unfold Array.eraseIdxIfInBounds;rw[dif_pos hj,Array.toList_eraseIdx];exact k9
   ·cases hm;exact h.elim
  ·rename_i hcal
   split at hm
   ·rename_i x t harg hty
    split at hm
    ·cases hm
     obtain⟨e,n,d,h1,⟨M⟩⟩:=rS (P:=P) hok g (cB he x) h;have ha:c.args= #[x]:=aj.1 harg;have ht:c.argTypes= #[t]:=aj.1 hty;have hsz:d.1.length=M.es.size:=by rw[M.md.w7.len];simp
     refine⟨_,.int .i64 (d.1.length:Int),st,loc,w,h1,rfl,g,Tr.refl _,ag3 M.md.aG,.inl ?_⟩;have hgo:(getObj M.b).run P w=.ok (.map M.es M.gF) w:=bm M.md.heap;simp[execOp,hop,resolve,hcal,ha,ht,invoke,builtin,Builtin.len_,run_underlying M.jZ,hgo,goInt,M.val,hsz]
    ·cases hm
   ·cases hm
  ·cases hm
 ·cases hm
end
def EU(cx:Cx)(st:St)(x:Operand)(ty:TypeId)(K:SV->St->VC):VC:=
 match ev st.env x,look cx.τ ty with
 |.s (.one .l6),ξ (.slice e)=>match e.gI with
  |true=>K (.s (.one (.bD st.next))) (fresh st (.bD e []))
  |false=>Bc cx st x ty K
 |_,_ =>.ff
def EV(cx:Cx)(st:St)(t:TypeId)(n:Nat)(x:C)(K:SV->St->VC):VC:=
 match look cx.τ t with
 |some (.slice e)=>match e.gI,A7 st e x,look st.aK n with
  |true,ξ ys,ξ (.bD e' zs)=>match h:Ty.beq (.slice e') (.slice e)with
   |true =>.and (0<ad ys/\ad zs+ad ys<=1000000000) (K (.s (.one (.bD st.next))) (fresh (bN (bN st n) n) (.bD e (dC h (a:=.slice e') zs++ys))))
   |false =>.ff
  |_,_,_ =>.ff
 |_ =>.ff
section
variable{X:Ext}{P:Program}{cx:Cx}
def Bg{O:aO}{st:St}{loc:Nat->Loc}{w:World}{a:Act}(g:Good cx.eT X (aD O st loc w))(hO:gx O w)(he:iP cx.eT (aD O st loc w) st.env a)
  {x:Operand}{ty:TypeId}{K:SV->St->VC}(h:(EU cx st x ty K).holds) :
  ∃sv st' loc',(K sv st').holds/\st'.env=st.env/\Good cx.eT X (aD O st' loc' w)/\Tr (aD O st loc w) (aD O st' loc' w)/\eK cx.eT (aD O st' loc' w) sv (a.eval x):=by
 have hx:=nS he x;unfold EU at h;split at h
 case h_2=>exact h.elim
 rename_i e hl _;rw[hl]at hx;split at h
 ·obtain⟨tr1,g1⟩:=jg (oc:=.bD e []) (l:=⟨.slice χ 0 0,[]⟩) g hO (Below.refl _ w) ς
  have g1:=g1 (.inl ⟨rfl,⟨χ,rfl⟩,rfl⟩);refine⟨_,_,_,h,rfl,g1,tr1,?_⟩;rw[show a.eval x=_ from hx];exact⟨by simp[aD,fresh],fun t ys hy=>by simp[aD,cK]⟩
 ·exact M1 g hO he h
def N2(hok:TyOK P cx){O:aO}{st:St}{loc:Nat->Loc}{w:World}(g:Good cx.eT X (aD O st loc w))(hO:gx O w)
  {t ty:TypeId}{n:Nat}{x:C}{K:SV->St->VC}{vs vx:Value}(hs:CR cx.eT (aD O st loc w) (.bD n) vs)(hx:CR cx.eT (aD O st loc w) x vx)(h:(EV cx st t n x K).holds) :
  ∃sv v st' loc' w',(K sv st').holds/\st'.env=st.env/\Good cx.eT X (aD O st' loc' w')/\Tr (aD O st loc w) (aD O st' loc' w')/\eK cx.eT (aD O st' loc' w') sv v/\
   (b7 #[t,t] ty #[vs,vx]).run P w=.ok v w':=by
 unfold EV at h;split at h
 case h_2=>exact h.elim
 rename_i e ht;obtain⟨te,ti,td,hu,hf⟩:=jr hok ht;obtain⟨z,hz,hzr⟩:=hf.zero;have hzs:z.cells.size=e.size:=by
  rw[<-b8];exact(nz (S:=aD O st loc w) (cx:=cx) hzr).length.symm.trans (kH e)
 split at h
 case h_2=>exact h.elim
 rename_i ys e' zs hsc hys hob;split at h
 case h_2=>exact h.elim
 rename_i hb1;have he1:e'=e:=by have:=Ty.eq_of_beq hb1;cases this;rfl
 subst he1;rw[iH]at h;obtain⟨⟨hpos,hle⟩,h⟩:=h;have hvl:=hs.2 _ _ hob;have hbytes:(ad zs+ad ys)*ti.bytes<=140737488355328:=by have:=Nat.mul_le_mul hle hf.bytes;omega
 rcases yC g hys hx with⟨rfl,_⟩|⟨b,o,cap,cs,hvx,ik,hcc,hrl,hone⟩
 ·simp at hpos
 have hnews:∀j u,cs[j]?=ξ u->w.cell? ((⟨b,o,χ⟩:Addr).add j)=ξ u:=fun j u hj=>by rw[bt];exact hcc j u hj
 subst hvx;have fin:∀(w':World) (b' cap':Nat) (vs':Array Value) (T':TypeId) (olds:List Value),olds.length=ad zs*e'.size->iG cx.eT e' zs (aD O st loc w).A w olds->
   w'.os=w.os->w'.output=w.output->w.heap.size<=w'.heap.size->(b'∈(loc n).bs\/w.heap.size<=b')->(∀b,b<w.heap.size->b≠b'->w'.heap[b]?=w.heap[b]?)->
   w'.heap[b']?=ξ (.cells vs' T' (0,0))->vs'.size=cap'*e'.size->ad zs+ad ys<=cap'->(∀(j:Nat) u,(olds++cs)[j]?=ξ u->vs'[j]?=ξ u)->
   (b7 #[t,t] ty #[vs,.slice (ξ ⟨b,o,χ⟩) ys.length cap]).run P w=.ok (.slice (ξ ⟨b',0,χ⟩) (ad zs+ad ys) cap') w'->
   ∃sv v st' loc' w',(K sv st').holds/\st'.env=st.env/\Good cx.eT X (aD O st' loc' w')/\Tr (aD O st loc w) (aD O st' loc' w')/\eK cx.eT (aD O st' loc' w') sv v/\
    (b7 #[t,t] ty #[vs,.slice (ξ ⟨b,o,χ⟩) ys.length cap]).run P w=.ok v w':=by
  intro w' b' cap' vs' T' olds ho1 ho3 hos hout hsize hb' hoth hheap' hsz' hcap' hv hrun;obtain⟨tr,gd⟩:=uG (w':=w') (oc:=.bD e' (zs++ys)) (l:=⟨.slice (ξ ⟨b',0,χ⟩) (ad zs+ad ys) cap',[b']⟩) g hO n n hos hout hsize
   (fun k oc' hk hl=>by
    have:k=n:=by rcases hk with h|h <;> exact h
    subst this;rw[hob]at hl;cases hl;rfl)
   (fun b hlt hb=>by
    refine hoth b hlt fun e' =>?_
    subst e';rcases hb' with k1|k1
    ·exact hb n _ (.inl rfl) hob k1
    ·omega)
   (fun b hbm=>by
    simp at hbm;subst hbm;rcases hb' with k1|k1
    ·exact .inl ⟨n,_,.inl rfl,hob,k1⟩
    ·exact .inr k1)
  have gd:=gd (.inr ⟨b',vs',T',cap',by rw[bh],rfl,hheap',hsz',by rw[bh];exact hcap',by rw[bh];unfold aG;omega,fun i y hy=>by
   obtain⟨us,r1,r2⟩:=(ho3.append ho1 hrl) i y hy;exact⟨us,mq hsc r1,fun j u hj=>hv _ u (r2 j u hj)⟩⟩)
  exact⟨_,_,_,_,_,h,rfl,gd,tr,⟨by simp[aD,fresh,bN],fun t xs hy=>by simp[aD,cK]⟩,hrun⟩
 rcases(g.obj n _ hob).2 with⟨rfl,⟨a0,ha0⟩,hbs0⟩|⟨b1,vs1,T1,cap1,hl1,hbs1,hheap1,hsz1,hfit1,hbig1,he1⟩
 ·have hvs0:vs=.slice a0 0 0:=hvl.trans ha0
  subst hvs0;have hrun:=qg (P:=P) (w:=w) (t:=t) (ty:=ty) hu hf.info hz a0 (a:=⟨b,o,χ⟩) (n:=ad ys) (c:=cap) (news:=cs) (by rw[ik,hf.size]) hnews hpos (by simp at hle;omega)
   (by have:=hbytes;simp only[List.length_nil,aw]at this;omega)
  have hc':ad ys<=grownCap w (ad ys) 0 te:=grownCap_ge w _ _ _;have hB:Below w.heap.size w (w.drew.alloc (.cells (cs.toArray++dt z.cells (grownCap w (ad ys) 0 te-ad ys)) te)):=(Below.refl _ w).drew.alloc (ai _) _;refine fin _ w.heap.size (grownCap w (ad ys) 0 te) _ te [] ς (fun i y hy=>by simp at hy) hB.os hB.output hB.size (.inr (ai _)) (fun b hlt _=>hB.block b hlt) (heap_alloc_new w.drew _) ?_ (by simpa using hc')
   (fun j u hj =>?_) (by rw[hrun];simp)
  ·simp only[du,bu,size_zeroCells,hzs,ik,<-b9]
   congr 1;omega
  ·rw[List.nil_append]at hj
   rw[Array.getElem?_append,π (by simpa using bR hj)];simpa using hj
 ·have hvs0:vs=.slice (ξ ⟨b1,0,χ⟩) (ad zs) cap1:=hvl.trans hl1
  subst hvs0;have hxs:ad zs*e'.size<=vs1.size:=by rw[hsz1];exact cu _ hfit1
  obtain⟨olds,ho,ho1,ho3,_⟩:=tp he1 hxs;have ho2:∀j u,olds[j]?=ξ u->vs1[j]?=ξ u:=fun j u hj=>by
   rw[ho,List.getElem?_take]at hj;split at hj
   ·rwa [Array.getElem?_toList]at hj
   ·cases hj
  by_cases hroom:ad zs+ad ys<=cap1
  ·have hmul:(ad zs+ad ys)*e'.size<=cap1*e'.size:=cu _ hroom
   rw[b9]at hmul;have hfit:ad zs*ti.size+cs.length<=vs1.size:=by rw[hf.size,hsz1,ik];exact hmul
   have hrun:=uk (P:=P) (ty:=ty) hu hf.info hheap1 (a:=⟨b,o,χ⟩) (c:=cap) (by rw[ik,hf.size]) hnews hone hroom hfit;rw[hf.size]at hrun hfit;generalize hcur':(vs1.toList.take (ad zs*e'.size)++cs++vs1.toList.drop (ad zs*e'.size+cs.length)).toArray=cur' at hrun;have hget:∀k:Nat,cur'[k]?=if k<ad zs*e'.size then vs1[k]? else if k<ad zs*e'.size+cs.length then cs[k-ad zs*e'.size]? else vs1[k]?:=by
    intro k;rw[<-hcur',List.getElem?_toArray,j0 _ _ _ _ (by simpa using hfit)];simp
   have hsz':cur'.size=vs1.size:=by
    rw[<-hcur'];simp only[bu,bh,List.length_take,List.length_drop,b8];omega
   refine fin (w.setRow b1 cur') b1 cap1 cur' T1 olds ho1 ho3 rfl rfl (by simp[World.setRow]) (.inl (by rw[show(loc n).bs=_ from hbs1];simp))
    (fun b _ hne=>setRow_other w b1 b cur' (fun e'=>hne e')) (setRow_heap w b1 vs1 cur' T1 (0,0) hheap1) (by rw[hsz',hsz1]) hroom (fun j u hj =>?_) hrun
   rw[List.getElem?_append,ho1]at hj;rw[hget];by_cases h3:j<ad zs*e'.size
   ·rw[π h3]at hj ⊢;exact ho2 j u hj
   ·rw[ε h3]at hj
    have:=bR hj;rw[ε h3,π ω];exact hj
  ·have hrun:=run_append_grow (P:=P) w t ty te ti z hu hf.info hz ⟨b1,0,χ⟩ (ad zs) cap1 olds (by rw[ho1,hf.size])
    (fun j u hj=>by rw[bt,aw,cell_of_row w b1 _ vs1 T1 (0,0) hheap1];exact ho2 j u hj)
    ⟨b,o,χ⟩ (ad ys) cap cs (by rw[ik,hf.size]) hnews ω ω (growslice_fits ω hbytes)
   have hc':ad zs+ad ys<=grownCap w (ad zs+ad ys) cap1 te:=grownCap_ge w _ _ _;have hB:Below w.heap.size w (w.drew.alloc (.cells (olds.toArray++cs.toArray++dt z.cells (grownCap w (ad zs+ad ys) cap1 te-(ad zs+ad ys))) te)):=(Below.refl _ w).drew.alloc (ai _) _;refine fin _ w.heap.size (grownCap w (ad zs+ad ys) cap1 te) _ te olds ho1 ho3 hB.os hB.output hB.size (.inr (ai _)) (fun b hlt _=>hB.block b hlt) (heap_alloc_new w.drew _) ?_ hc' (fun j u hj =>?_) hrun
   ·simp only[du,bu,size_zeroCells,hzs,ik,ho1,<-b9]
    congr 1;omega
   ·have hj':(olds.toArray++cs.toArray)[j]?=ξ u:=by
     rw[<-Array.getElem?_toList];simpa using hj
    rw[Array.getElem?_append,π (by have:=(Array.getElem?_eq_some_iff.1 hj').1;exact this)];exact hj'
end
def adM(a b:Int):Int:=if b<a then b else a
def We(a b:Int):Int:=if b > a then b else a
def Wf(mx:Bool)(x y:C)(K:C->VC):VC:=
 match x,y with
 |.d (.int k) a,.d (.int k') b=>match ρ (k=k'),mx with
  |true,φ=>K (.d (.int k) (We a b))
  |true,ψ=>K (.d (.int k) (adM a b))
  |_,_ =>.ff
 |_,_ =>.ff
def vu(st:St)(env:List (Nat×SV)):List Operand->Option (List Nat)
 |[]=>ξ []
 |x :: xs=>match fC env x,vu st env xs with
  |.ref n 0,ξ ns=>match look st.aK n with
   |some (.cells _ _)=>ξ (n :: ns)
   |_=>χ
  |_,_=>χ
def Zd(cx:Cx)(st:St)(still:Bool)(f:C)(args:List dI)(K:SV->St->VC):VC:=
 match f with
 |.fn k caps=>match look cx.Γ k with
  |some (q,sp)=>match still&&!q with
   |true =>.ff
   |false=>sp (args++caps.map fun n =>.one (.ref n 0)) st K
  |none =>.ff
 |_ =>.ff
def vw(cx:Cx)(d:Option Tmp):Bool:=
 match d with
 |some d=>pg d cx.hint
 |none=>ψ
def EW(cx:Cx)(st:St)(o:Oper)(c:Call)(K:SV->St->VC):VC:=
 match c.callee with
 |.value f=>Zd cx st (vw cx o.dst) (fC st.env f) (c.args.toList.map fun x=>uz st.env x) K
 |.builtin .append=>match c.args.toList,c.argTypes.toList with
  |[s,x],[t,t']=>match ab t t' with
   |true=>match fC st.env s,fC st.env x with
    |.xd n .top,.xd m .top=>IL cx st t n m K
    |.bD n,x=>match vw cx o.dst with
     |true=>EV cx st t n x K
     |false=>yB cx ψ st t (.bD n) x K
    |s,x=>yB cx (vw cx o.dst) st t s x K
   |false=>match look cx.τ t,look cx.τ t',fC st.env s,fC st.env x with
    |some (.slice (.int .u8)),ξ .str,.app e' xs n,.d .str ys=>F8 st (.int .u8) (bW ys) e' xs n K
    |_,_,_,_ =>.ff
  |_,_ =>.ff
 |.builtin .copy=>match c.args.toList,c.argTypes.toList with
  |[d,s],[t,_]=>NV cx st t (fC st.env d) (fC st.env s) K
  |_,_ =>.ff
 |.builtin .max=>match c.args.toList with
  |[x,y]=>Wf φ (fC st.env x) (fC st.env y) fun c=>K (.s (.one c)) st
  |_ =>.ff
 |.builtin .min=>match c.args.toList with
  |[x,y]=>Wf ψ (fC st.env x) (fC st.env y) fun c=>K (.s (.one c)) st
  |_ =>.ff
 |_=>rN cx st o.op fun sv=>K sv st
def bytesOf(ys:List Int):List UInt8:=ys.map fun n=>UInt8.ofNat n.toNat
def yE(st:St)(x:C)(K:C->VC):VC:=
 match A7 st (.int .u8) x with
 |some ys =>.and (ys.length<=aG) (K (.d .str (bytesOf ys)))
 |none =>.ff
def yF(st:St)(x:C)(K:SV->St->VC):VC:=
 match x with
 |.d .str s=>K (.s (.one (.d (.slice (.int .u8)) (bW s)))) st
 |_ =>.ff
def EX(cx:Cx)(st:St)(o:Oper)(s t:TypeId)(x:Operand)(K:SV->St->VC):VC:=
 match look cx.τ s,look cx.τ t with
 |some (.slice (.int .u8)),ξ .str=>yE st (fC st.env x) fun c=>K (.s (.one c)) st
 |some .str,ξ (.slice (.int .u8))=>yF st (fC st.env x) K
 |_,ξ (.int _)=>rN cx st o.op fun sv=>K sv st
 |_,_ =>.ff
def isRow:C->Bool
 |.bD _=>φ
 |_=>ψ
def Ug(st:St)(n:Nat)(ps:List (Nat×Operand)):Option dI:=
 match n,ps with
 |1,[(0,x)]=>match uz st.env x with
  |.one (.bD m)=>ξ (.one (.bD m))
  |.agg cs=>match cs.any isRow with
   |true=>ξ (.agg cs)
   |false=>χ
  |_=>χ
 |_,_=>χ
def ag4:Nat:=6000000
def Wg(cx:Cx)(d:Option Tmp)(v:SV):Option SV:=
 match d,v with
 |some d,.s (.one (.app e xs _))=>match pg (ag4+d) cx.hint with
  |true=>ξ (.s (.one (.d (.slice e) xs)))
  |false=>χ
 |_,_=>χ
def Wh(cx:Cx)(st:St)(o:Oper)(x:Operand)(K:SV->St->VC):VC:=
 match vw cx o.dst,ev st.env x with
 |true,.s (.one .l6)=>EU cx st x o.type K
 |_,v=>match Wg cx o.dst v with
  |some v=>K v st
  |none=>CU cx st x o.type K
def JK(cx:Cx)(st:St)(t:TypeId)(n:Nat)(ps:List (Nat×Operand))(K:SV->St->VC):VC:=
 match Ug st n ps with
 |some v=>Bd cx st t v K
 |none=>vr cx st t n ps fun c=>K (.s (.one c)) st
def ag5:Nat:=5000000
def N3(cx:Cx)(v:dI):Option Nat:=
 match pg ag5 cx.hint,v with
 |true,.one (.bD n)=>ξ n
 |_,_=>χ
def Ze{cx:Cx}{v:dI}{n:Nat}(h:N3 cx v=ξ n):v=.one (.bD n):=by
 unfold N3 at h;split at h
 ·cases h;rfl
 ·cases h
def aiK(cx:Cx)(st:St)(t:TypeId)(x:C)(v:dI)(K:SV->St->VC):VC:=
 match x with
 |.xd n (.cell i j)=>match look cx.τ t with
  |some ty=>Be st n i j ty v K
  |none =>.ff
 |x=>match N3 cx v with
  |some n=>match look st.aK n with
   |some (.bD e zs)=>CV cx (bN st n) t x (.one (.d (.slice e) zs)) K
   |_ =>.ff
  |none=>CV cx st t x v K
def Gh(cx:Cx)(st:St)(o:Oper)(K:SV->St->VC):VC:=
 match o.op with
 |.convert s t x=>EX cx st o s t x K
 |.move x=>CU cx st x o.type K
 |.assign x=>Wh cx st o x K
 |.alloc t=>match look cx.AB t with
  |some e=>K (.s (.one (.fS st.next))) (fresh st (.ext 2 mI ([],(t:Int),(e:Int),())))
  |none=>Ub cx st t K
 |.box t x=>agw cx st t (uz st.env x) K
 |.build t ps=>IK cx st t ps.toList fun sv=>K sv st
 |.buildSlice t n ps=>match vw cx o.dst with
  |true=>yD cx st t n ps.toList K
  |false=>JK cx st t n ps.toList K
 |.makeSlice t l c=>xb cx st t (fC st.env l) (fC st.env c) K
 |.store t x v=>aiK cx st t (fC st.env x) (uz st.env v) K
 |.makeFunc fn first caps=>match fn,first.toList,vu st st.env caps.toList with
  |.func f,[],ξ ns=>K (.s (.one (.fn f ns))) st
  |_,_,_ =>.ff
 |.call c=>EW cx st o c K
 |op=>rN cx st op fun sv=>K sv st
def Bh(cx:Cx)(st:St)(o:Oper)(K:SV->St->VC):VC:=
 match Gf cx st o K with
 |some vc=>vc
 |none=>Gh cx st o K
def kindOf(cx:Cx)(o:Oper):Nat:=
 match o.op with
 |.move _|.assign _=>0
 |.convert _ t _=>match look cx.τ t with
  |some (.int _)=>0
  |_=>3
 |.pick _ _ _|.unOp _ _ _|.extract _ _|.binOp _ _ _ _ _|.makeInterface _ _|.typeAssert _ _ _ _|.index _ _ _|.build _ _|.nilCheck _|.indexAddr _ _ _|.fieldAddr _ _ _|.slice _ _ _ _ _|.makeFunc _ _ _=>0
 |.load _ _=>1
 |.alloc _|.box _ _|.buildSlice _ _ _|.makeSlice _ _ _=>2
 |.call c=>match c.callee with
  |.builtin .len=>match c.argTypes.toList with
   |[t]=>match look cx.vo t with
    |some _=>3
    |none=>0
   |_=>0
  |.builtin .max=>0
  |.builtin .min=>0
  |.value (.func f)=>match look cx.Γ f with
   |some (φ,_)=>2
   |_=>3
  |.value _=>match vw cx o.dst with
   |true=>2
   |false=>3
  |_=>3
 |_=>3
section
variable{X:Ext}{P:Program}{cx:Cx}
def No(cx:Cx)(X:Ext)(O:aO)(K:SV->St->VC)(st:St)(S:bT)(loud:Bool)(a:Act)(dst:Option Tmp):Act->World->Prop:=
 fun a' w'=>∃v sv st' loc',a'=a.put dst v/\(K sv st').holds/\st'.env=st.env/\(loud=ψ->Below S.w.heap.size S.w w')/\Good cx.eT X (aD O st' loc' w')/\Tr S (aD O st' loc' w')/\eK cx.eT (aD O st' loc' w') sv v
structure aW (P:Program) (eT:TypeId) (X:Ext) (f:FuncId) (quiet:Bool) (sp:aL):Prop where
 fn:∃fn,P.funcs[f]?=ξ fn/\fn.body.isNone=ψ/\(fn.name == "runtime.NumGoroutine")=ψ
 ok:∀O st loc w args vs K,(sp args st K).holds->Good eT X (aD O st loc w)->gx O w->dK eT (aD O st loc w) args vs->
  Calls P f vs.toArray w fun e w'=>∃v sv st' loc',e=.returned v/\(K sv st').holds/\st'.env=st.env/\(quiet=φ->Below w.heap.size w w')/\Good eT X (aD O st' loc' w')/\
   Tr (aD O st loc w) (aD O st' loc' w')/\eK eT (aD O st' loc' w') sv v
structure nU (P:Program) (cx:Cx) (X:Ext):Prop extends TyOK P cx where
 calls:∀f q sp,look cx.Γ f=ξ (q,sp)->aW P cx.eT X f q sp
variable{Q:Exit->Act->World->Prop}
def fX{o:Oper}{a:Act}{w w':World}{v:Value}{Kw:Act->World->Prop}(h:(execOp a.eval o).run P w=.ok (.value v) w')(hk:Kw (a.put o.dst v) w'):o.wp P a w Kw Q:=by
 unfold bj;rw[h];exact hk
def Bi{f:FuncId}{fn:Func}(hfn:P.funcs[f]?=ξ fn)(hbody:fn.body.isNone=ψ)(hname:(fn.name == "runtime.NumGoroutine")=ψ)(args:Array Value)(w:World) :
  (callFunc f args).run P w=.ok (.enter f args) w:=by
 unfold callFunc;simp only[af,run_program,aq,hfn,hname,hbody,az,if_false,ak]
def Bj{O:aO}{st:St}{loc:Nat->Loc}{w:World}{a:Act}(he:iP cx.eT (aD O st loc w) st.env a):∀{xs:List Operand} {ns:List Nat},vu st st.env xs=ξ ns->
  xs.map a.eval=ns.map (fun n=>(loc n).v)/\∀n∈ns,n<st.next/\(aD O st loc w).fixed n:=by
 intro xs;induction xs with
 |nil=>intro ns h;simp[vu]at h;subst h;simp
 |cons x xs ih=>
  intro ns h;simp only[vu]at h;split at h
  ·rename_i n ns' hx hxs
   split at h
   ·rename_i T cs hob
    cases h;obtain⟨k1,k2⟩:=ih hxs;have hr:=cB he x;rw[hx]at hr;obtain⟨b,h1,h2⟩:=hr.2 _ _ hob;refine⟨by simp only[List.map_cons,k1];congr 1;rw[h2];exact h1.symm,fun m hm =>?_⟩;rcases ah.1 hm with rfl|hm
    ·exact⟨hr.1,fun t ys e=>by simp only[aD]at e;rw[hob]at e;cases e⟩
    ·exact k2 m hm
   ·cases h
  ·cases h
def dK.append{eT:TypeId}{S:bT}{xs ys:List dI}{us vs:List Value}(h:dK eT S xs us)(h':dK eT S ys vs):dK eT S (xs++ys) (us++vs):=by
 induction h with
 |nil=>exact h'
 |cons h1 _ ih=>exact .cons h1 ih
def adN{O:aO}{st:St}{loc:Nat->Loc}{w:World}(g:Good cx.eT X (aD O st loc w)):∀{ns:List Nat},(∀n∈ns,n<st.next)->dK cx.eT (aD O st loc w) (ns.map fun n =>.one (.ref n 0)) (ns.map fun n=>(loc n).v):=by
 intro ns;induction ns with
 |nil=>intro _;exact .nil
 |cons n ns ih=>
  intro h;refine .cons ⟨h n ς,fun T cs hob =>?_⟩ (ih fun m hm=>h m (by simp[hm]));obtain⟨_,b,vs,hl,_⟩:=g.obj _ _ hob;exact⟨b,hl,hl⟩
def N4{S:bT}{env:List (Nat×SV)}{a:Act}(he:iP cx.eT S env a):∀(xs:List Operand),dK cx.eT S (xs.map fun x=>uz env x) (xs.map a.eval)
 |[] =>.nil
 |x :: xs =>.cons (nT he x) (N4 he xs)
def yG{S:bT}{mx:Bool}{x y:C}{K:C->VC}{v1 v2:Value}(hx:CR cx.eT S x v1)(hy:CR cx.eT S y v2)(h:(Wf mx x y K).holds) :
  ∃c v,(K c).holds/\CR cx.eT S c v/\∀w,(if mx then dv v1 v2 else dw v1 v2).run P w=.ok v w:=by
 unfold Wf at h;split at h
 ·rename_i k a k' b
  obtain⟨rfl,ha⟩:=dL.1 hx;obtain⟨rfl,hb⟩:=dL.1 hy;split at h
  ·rename_i hk
   simp at hk;subst hk;refine⟨_,_,h,dL.2 ⟨rfl,?_⟩,fun w=>by simp[dv,We]⟩;unfold We;split <;> assumption
  ·rename_i hk
   simp at hk;subst hk;refine⟨_,_,h,dL.2 ⟨rfl,?_⟩,fun w=>by simp[dw,adM]⟩;unfold adM;split <;> assumption
  ·exact h.elim
 ·exact h.elim
def foldl_push(ns:List Int):∀s:ByteArray,ns.foldl (fun r n=>r.push (UInt8.ofNat n.toNat)) s=⟨s.data++(bytesOf ns).toArray⟩:=by
 induction ns with
 |nil=>intro s;simp[bytesOf]
 |cons n ns ih=>
  intro s;rw[cw,ih];simp[bytesOf,ByteArray.push]
def ag6{eT:TypeId}{A:aO}{w:World}{ys:List Int}{cs:List Value}(hl:cs.length=ys.length)(h:iG eT (.int .u8) ys A w cs):cs=ys.map (Value.int .u8):=by
 apply List.ext_getElem?;intro i;cases hy:ys[i]? with
 |none=>
  have:ys.length<=i:=List.getElem?_eq_none_iff.1 hy;rw[List.getElem?_eq_none ω,List.getElem?_eq_none (by simpa using this)]
 |some y=>
  obtain⟨us,h1,h2⟩:=h i y hy;obtain⟨rfl,_⟩:=h1;have:=h2 0 _ rfl;simp only[Ty.size,cy,cz]at this;rw[this,List.getElem?_map,hy];rfl
def IN(hok:TyOK P cx){O:aO}{st:St}{loc:Nat->Loc}{w:World}(g:Good cx.eT X (aD O st loc w)){s t:TypeId}(hs:look cx.τ s=ξ (.slice (.int .u8)))(ht:look cx.τ t=ξ .str)
  {x:C}{v0:Value}(hx:CR cx.eT (aD O st loc w) x v0){K:C->VC}(h:(yE st x K).holds) :
  ∃c v,(K c).holds/\CR cx.eT (aD O st loc w) c v/\(convert s t v0).run P w=.ok v w:=by
 obtain⟨_,i1,d1,hf1,hs1⟩:=gL hok hs;cases d1 <;> simp[cV]at hs1;rename_i te;have hu:=hf1.jZ;obtain⟨_,_,d3,_,hf3,hs3⟩:=nx hs1;have hte:P.underlying te=ξ (.int .u8):=by
  cases d3 <;> simp[cV]at hs3;subst hs3;exact hf3.jZ
 obtain⟨_,i2,d2,hf2,hs2⟩:=gL hok ht;have hd2:d2=.string:=by cases d2 <;> simp[cV]at hs2;rfl
 subst hd2;unfold yE at h;split at h
 ·rename_i ys hys
  obtain⟨hlen,h⟩:=h;refine⟨_,.string ⟨(bytesOf ys).toArray⟩,h,lJ.2 ⟨rfl,by simpa[bytesOf]using hlen⟩,?_⟩;rcases yC g hys hx with⟨rfl,a0,c0,rfl⟩|⟨b,o,cap,cs,rfl,h1,h2,h3,_⟩
  ·rcases a0 with _|a0
   ·rw[run_convert_bytes_string w s t te χ 0 c0 hu hte hf2.jZ]
    rfl
   ·rw[run_convert_bytes_string w s t te _ _ _ hu hte hf2.jZ]
    rw[run_bytesToString w a0 0 c0 [],foldl_push]
    ·simp
    ·have:=run_loadCells_list (P:=P) w a0 [] (fun j u hj=>by simp at hj)
     simpa using this
  ·rw[run_convert_bytes_string w s t te _ _ _ hu hte hf2.jZ]
   simp only[Ty.size,cy]at h1;have hcs:=ag6 h1 h3;rw[run_bytesToString w ⟨b,o,χ⟩ ys.length cap ys,foldl_push]
   ·simp
   ·rw[<-h1,run_loadCells_list w _ cs (fun j u hj=>by rw[bt];exact h2 j u hj),hcs]
 ·exact h.elim
def DD(s:List UInt8)(i:Nat):(bW s)[i]?=s[i]?.map fun b=>(b.toNat:Int):=by
 simp[bW]
def JL{S:bT}{d:Option Tmp}{v u:SV}{val:Value}(h:Wg cx d v=ξ u)(hv:eK cx.eT S v val):eK cx.eT S u val:=by
 unfold Wg at h;split at h
 ·split at h
  ·cases h
   exact hv.1
  ·cases h
 ·cases h
def IP(hok:TyOK P cx){O:aO}{st:St}{loc:Nat->Loc}{w:World}(g:Good cx.eT X (aD O st loc w))(hO:gx O w){s t:TypeId}(hs:look cx.τ s=ξ .str)(ht:look cx.τ t=ξ (.slice (.int .u8)))
  {x:C}{v0:Value}(hx:CR cx.eT (aD O st loc w) x v0){K:SV->St->VC}(h:(yF st x K).holds) :
  ∃sv v w',(K sv st).holds/\eK cx.eT (aD O st loc w') sv v/\(convert s t v0).run P w=.ok v w'/\Below w.heap.size w w':=by
 obtain⟨_,i1,d1,hf1,hs1⟩:=gL hok ht;cases d1 <;> simp[cV]at hs1;rename_i te;obtain⟨_,_,d3,_,hf3,hs3⟩:=nx hs1;have hte:P.underlying te=ξ (.int .u8):=by
  cases d3 <;> simp[cV]at hs3;subst hs3;exact hf3.jZ
 obtain⟨_,i2,d2,hf2,_⟩:=gL hok hs;unfold yF at h;split at h
 case h_2=>exact h.elim
 rename_i s0;obtain⟨rfl,hbig⟩:=lJ.1 hx;have hrun:=Lib.run_convert_string_bytes (P:=P) w s t te ⟨s0.toArray⟩ hf2.jZ hf1.jZ hte;have hbl:Below w.heap.size w (Lib.bytesWorld w te ⟨s0.toArray⟩):=⟨rfl,rfl,by rw[Lib.bytesWorld_size];omega,fun k hk=>Lib.bytesWorld_at_old w te _ k hk⟩;refine⟨_,_,_,h,?_,hrun,hbl⟩;have hA:∀o,¬(aD O st loc w).A w.heap.size o:=by
  rintro o (h|⟨n,oc,h1,h2,_⟩)
  ·exact absurd (hO _ _ h) (Nat.lt_irrefl _)
  ·exact absurd ((g.obj n oc h1).2.inside _ h2) (Nat.lt_irrefl _)
 have hsz:(⟨s0.toArray⟩:ByteArray).size=s0.length:=by simp[ByteArray.size]
 show VR cx.eT (.slice (.int .u8)) (bW s0) _ _ _;refine VR.dF rfl ⟨_,rfl,by simpa[bW]using hbig,.inr ⟨w.heap.size,0,grownCap w s0.length 0 te,by rw[hsz];simp[bW],by simp only[bW,ca];exact grownCap_ge _ _ _ _,fun i y hy=>⟨[.int .u8 y],?_,?_⟩⟩⟩
 ·rw[DD]at hy
  cases hb:s0[i]? with
  |none=>rw[hb]at hy;cases hy
  |some b=>
   rw[hb]at hy;cases hy;have h1:=b.toNat_lt;have h2:cb.min=0:=by decide
   have h3:cb.max=255:=by decide
   refine⟨rfl,?_,?_⟩
   ·show cb.min<=((b.toNat:Nat):Int);omega
   ·show((b.toNat:Nat):Int)<=cb.max;omega
 ·intro j u hj
  cases j with
  |succ j=>simp at hj
  |zero=>
   simp at hj;subst hj;refine⟨?_,hA _⟩;rw[DD]at hy;cases hb:s0[i]? with
   |none=>rw[hb]at hy;cases hy
   |some b=>
    rw[hb]at hy;cases hy;have hlt:i<s0.length:=(List.getElem?_eq_some_iff.1 hb).1;have:=Lib.bytesWorld_cell w te ⟨s0.toArray⟩ i (by rw[hsz];exact hlt);simp only[aD,Ty.size,cy,aw,cz];rw[this];simp[List.getD,hb]
def Zf(hok:nU P cx X){O:aO}{st:St}{loc:Nat->Loc}{w:World}{a:Act}(g:Good cx.eT X (aD O st loc w))(hO:gx O w)(he:iP cx.eT (aD O st loc w) st.env a)
  {o:Oper}{K:SV->St->VC}(h:(Gh cx st o K).holds):o.wp P a w (No cx X O K st (aD O st loc w) (ab (kindOf cx o) 3) a o.dst) Q:=by
 have read:(rN cx st o.op fun sv=>K sv st).holds->o.wp P a w (No cx X O K st (aD O st loc w) (ab (kindOf cx o) 3) a o.dst) Q:=by
  intro h;obtain⟨sv,v,h1,h2,h3⟩:=NP hok.toTyOK g he h;exact fX h3 ⟨v,sv,st,loc,rfl,h1,rfl,fun _=>Below.refl _ _,g,Tr.refl _,h2⟩
 have mov:∀x ty,(execOp a.eval o).run P w=.ok (.value (a.eval x)) w->(CU cx st x ty K).holds->o.wp P a w (No cx X O K st (aD O st loc w) (ab (kindOf cx o) 3) a o.dst) Q:=by
  intro x ty hrun h;obtain⟨sv,st',loc',h1,h2,h3,h4,h5⟩:=DA g hO he h;exact fX hrun ⟨_,sv,st',loc',rfl,h1,h2,fun _=>Below.refl _ _,h3,h4,h5⟩
 unfold Gh at h;split at h
 ·rename_i s t x hop
  unfold EX at h;split at h
  ·rename_i hs ht
   obtain⟨c,v,h1,h2,h3⟩:=IN hok.toTyOK g hs ht (cB he x) h;exact fX (w':=w) (by simp only[execOp,hop,af,ak];rw[h3];rfl) ⟨v,_,st,loc,rfl,h1,rfl,fun _=>Below.refl _ _,g,Tr.refl _,h2⟩
  ·rename_i hs ht
   obtain⟨sv,v,w',h1,h2,h3,h4⟩:=IP hok.toTyOK g hO hs ht (cB he x) h;obtain⟨t1,g1⟩:=rH (S:=aD O st loc w) (S':=aD O st loc w') g rfl rfl rfl rfl h4;exact fX (w':=w') (by simp only[execOp,hop,af,ak];rw[h3];rfl) ⟨v,sv,st,loc,rfl,h1,rfl,fun _=>h4,g1,t1,h2⟩
  ·exact read h
  ·exact h.elim
 ·rename_i x hop
  exact mov x _ (by simp[execOp,hop]) h
 ·rename_i x hop
  unfold Wh at h;split at h
  ·obtain⟨sv,st',loc',h1,h2,h3,h4,h5⟩:=Bg g hO he h
   exact fX (w':=w) (v:=a.eval x) (by simp[execOp,hop]) ⟨_,sv,st',loc',rfl,h1,h2,fun _=>Below.refl _ _,h3,h4,h5⟩
  ·split at h
   ·rename_i hd
    exact fX (w':=w) (v:=a.eval x) (by simp[execOp,hop]) ⟨_,_,st,loc,rfl,h,rfl,fun _=>Below.refl _ _,g,Tr.refl _,JL hd (nS he x)⟩
   ·exact mov x _ (by simp[execOp,hop]) h
 ·rename_i t hop
  split at h
  ·rename_i e hslf
   obtain⟨i,hi,hz⟩:=hok.AB t e hslf;have hb:Below w.heap.size w (w.alloc (.cells #[.pointer χ,.slice χ 0 0] t)):=(Below.refl _ w).alloc (ai _) _;obtain⟨tr1,g1⟩:=jg (oc:=.ext 2 mI ([],(t:Int),(e:Int),())) (l:=⟨.pointer (ξ ⟨w.heap.size,0,χ⟩),[w.heap.size]⟩) g hO hb ς;have g1:=g1 (X.Y0.2 ⟨rfl,w.heap.size,.pointer χ,.slice χ 0 0,rfl,.inl rfl,heap_alloc_new w _,⟨ς,.inl ⟨rfl,rfl⟩⟩,rfl,by simp[Value.ownBlock],(fun y hy=>by simp at hy),(fun a n c hh=>by cases hh)⟩);refine fX (w':=w.alloc (.cells #[.pointer χ,.slice χ 0 0] t)) (v:=.pointer (ξ ⟨w.heap.size,0,χ⟩)) (by simp[execOp,hop,c6,zeroValue,typeInfo,hi,hz,newVar,newRow,bw])
    ⟨_,_,_,_,rfl,h,rfl,fun _=>hb,g1,tr1,⟨by simp[aD,fresh],fun oc hy hx =>?_⟩⟩
   simp[aD,cK]
  unfold Ub at h;split at h
  ·rename_i ty ht
   obtain⟨m,ti,d,hf,hs⟩:=gL hok.toTyOK ht;obtain⟨z,hz,hzr⟩:=hf.zero;obtain⟨sv,st',loc',h1,h2,h3,h4,h5⟩:=Y8 (t:=t) (ts:=rr ty) g hO (nz hzr) h;refine fX (w':=w.alloc (.cells z.cells.toList.toArray t)) ?_ ⟨_,sv,st',loc',rfl,h1,h2,fun _=>(Below.refl _ w).alloc (ai _) _,h3,h4,h5⟩;simp[execOp,hop,c6,zeroValue,typeInfo,hf.info,hz,newVar,newRow]
  ·split at h
   case h_2=>exact h.elim
   rename_i n te hn;split at h
   case h_2=>exact h.elim
   rename_i e he;split at h
   case h_2=>exact h.elim
   rename_i hno;obtain⟨i,z,hi,hz,hzr⟩:=hok.EJ t n te e hn he;have hb:Below w.heap.size w (w.alloc (.cells z.cells.toList.toArray t)):=(Below.refl _ w).alloc (ai _) _;obtain⟨tr1,g1⟩:=jg (oc:=.arr e (dx n (cD e))) (l:=⟨.pointer (ξ ⟨w.heap.size,0,χ⟩),[w.heap.size]⟩) g hO hb ς;obtain⟨hl,hel⟩:=NS (eT:=cx.eT) (A:=(aD O (fresh st (.arr e (dx n (cD e)))) (cK loc st.next ⟨.pointer (ξ ⟨w.heap.size,0,χ⟩),[w.heap.size]⟩) (w.alloc (.cells z.cells.toList.toArray t))).A) (w:=w.alloc (.cells z.cells.toList.toArray t)) hno hzr;have g1:=g1 ⟨w.heap.size,z.cells.toList.toArray,t,rfl,rfl,heap_alloc_new w _,by simp only[bu,List.length_replicate];exact hl,fun j y hy=>by
    obtain⟨us,k1,k2⟩:=hel j y hy;exact⟨us,k1,fun q u hq=>by simpa using k2 q u hq⟩⟩
   refine fX (w':=w.alloc (.cells z.cells.toList.toArray t)) ?_ ⟨.pointer (ξ ⟨w.heap.size,0,χ⟩),_,_,_,rfl,h,rfl,fun _=>hb,g1,tr1,?_⟩
   ·simp[execOp,hop,c6,zeroValue,typeInfo,hi,hz,newVar,newRow]
   ·show st.next<st.next+1/\_
    refine⟨ω,fun t' xs' hx =>?_⟩;simp[aD,cK]
 ·rename_i t x hop
  unfold agw at h;split at h
  ·rename_i ty ht
   split at h
   ·rename_i cs0 hfl
    obtain⟨us,hus,hcr,_⟩:=wk g hfl (nT he x);obtain⟨sv,st',loc',h1,h2,h3,h4,h5⟩:=Y8 (t:=t) (ts:=rr ty) g hO hcr h;refine fX (w':=w.alloc (.cells us.toArray t)) ?_ ⟨_,sv,st',loc',rfl,h1,h2,fun _=>(Below.refl _ w).alloc (ai _) _,h3,h4,h5⟩;subst hus;simp[execOp,hop,Instr.box,newVar,newRow]
   ·exact h.elim
  ·exact h.elim
 ·rename_i t ps hop
  obtain⟨sv,v,h1,h2,h3⟩:=AE hok.toTyOK g he h;exact fX (by have:=h3 w;simp only[execOp,hop,af,ak];rw[this];rfl) ⟨v,sv,st,loc,rfl,h1,rfl,fun _=>Below.refl _ _,g,Tr.refl _,h2⟩
 ·rename_i t n ps hop
  split at h
  ·obtain⟨sv,v,st',loc',w',h1,h2,h3,h4,h5,h6,h7⟩:=ER hok.toTyOK g hO he h
   exact fX (by simp only[execOp,hop,af,ak];rw[h7];rfl) ⟨v,sv,st',loc',rfl,h1,h3,fun _=>h2,h4,h5,h6⟩
  unfold JK at h;split at h
  ·rename_i sv0 hown
   have hp:∃x,n=1/\ps.toList=[(0,x)]/\jR cx.eT (aD O st loc w) sv0 (a.eval x):=by
    unfold Ug at hown;split at hown
    ·rename_i x hps
     have hr:=nT he x;split at hown
     ·rename_i m hm;cases hown;exact⟨x,rfl,hps,by rw[<-hm];exact hr⟩
     ·rename_i cs hm
      split at hown
      ·cases hown;exact⟨x,rfl,hps,by rw[<-hm];exact hr⟩
      ·cases hown
     ·cases hown
    ·cases hown
   obtain⟨x,rfl,hps,hr⟩:=hp;obtain⟨sv,v,st',loc',w',h1,h2,h3,h4,h5,h6,h7⟩:=Gc hok.toTyOK g hO hr h;have hps':ps= #[(0,x)]:=aj.1 hps;exact fX (w':=w') (v:=v) (by simp only[execOp,hop,af,ak,hps'];rw[show(#[(0,x)]:Array (Nat×Operand)).map (fun(i,x)=>(i,a.eval x))= #[(0,a.eval x)]from by simp,h7];rfl) ⟨v,sv,st',loc',rfl,h1,h2,fun _=>h3,h4,h5,h6⟩
  obtain⟨c,v,w',h1,h2,h3,h4,h5,h6⟩:=Bb hok.toTyOK g hO he h;exact fX (by simp only[execOp,hop,af,ak];rw[h6];rfl) ⟨v,_,st,loc,rfl,h1,rfl,fun _=>h2,h3,h4,h5⟩
 ·rename_i t l c hop
  obtain⟨sv,v,st',loc',w',h1,h2,h3,h4,h5,h6,h7⟩:=Dt hok.toTyOK g hO (cB he l) (cB he c) h;exact fX (by simp only[execOp,hop,af,ak];rw[h7];rfl) ⟨v,sv,st',loc',rfl,h1,h3,fun _=>h2,h4,h5,h6⟩
 ·rename_i t x v hop
  have hst:∃st' loc' w',(K (.s (.one .any)) st').holds/\st'.env=st.env/\Good cx.eT X (aD O st' loc' w')/\Tr (aD O st loc w) (aD O st' loc' w')/\(Instr.storeAt t (a.eval x) (a.eval v)).run P w=.ok () w':=by
   have hx:=cB he x;unfold aiK at h;split at h
   ·rename_i n i j hl
    rw[hl]at hx;split at h
    ·rename_i ty ht
     obtain⟨_,_,_,hf,_⟩:=gL hok.toTyOK ht;exact Gd g hO hf hx (nT he v) h
    ·exact h.elim
   ·split at h
    ·rename_i n hr
     split at h
     ·rename_i e zs hob
      have hv:=nT he v;rw[Ze hr]at hv;obtain⟨td,gd⟩:=pH g n;obtain⟨st',loc',w',k1,k2,k3,k4,k5⟩:=AD (v:=.one (.d (.slice e) zs)) hok.toTyOK gd hO (hx.tr td) (DC g hob hv) h;exact⟨st',loc',w',k1,k2,k3,td.trans k4,k5⟩
     ·exact h.elim
    ·exact AD hok.toTyOK g hO hx (nT he v) h
  obtain⟨st',loc',w',h1,h2,h3,h4,h5⟩:=hst;have hrun:(execOp a.eval o).run P w=.ok .skip w':=by
   simp only[execOp,hop,af,ak];rw[h5];rfl
  unfold bj;rw[hrun];have hk:ab (kindOf cx o) 3=φ:=by simp[kindOf,hop]
  exact⟨undef,_,st',loc',rfl,h1,h2,fun e=>(by rw[hk]at e;cases e),h3,h4,aa⟩
 ·rename_i fn first caps hop
  split at h
  ·rename_i f ns hfi hcn
   obtain⟨k1,k2⟩:=Bj he hcn;have hfi':first= #[]:=aj.1 hfi
   have hca:caps.map a.eval=(ns.map fun n=>(loc n).v).toArray:=by
    apply aj.1;rw[dy,k1]
   refine fX (w':=w) (v:=.func (.func f) #[] (ns.map fun n=>(loc n).v).toArray) ?_ ⟨_,_,st,loc,rfl,h,rfl,fun _=>Below.refl _ _,g,Tr.refl _,⟨rfl,k2⟩⟩;simp[execOp,hop,dz,hfi',hca]
  ·exact h.elim
 ·rename_i c hop
  unfold EW at h;split at h
  ·rename_i f hcal
   unfold Zd at h;split at h
   ·rename_i k caps hf
    split at h
    ·rename_i q sp hsp
     split at h
     ·exact h.elim
     rename_i hstill;obtain⟨⟨fn,hfn,hbody,hname⟩,hcall⟩:=hok.calls k q sp hsp;have hr:=cB he f;rw[hf]at hr;obtain⟨hfv,hcaps⟩:=hr;have hargs:=(N4 he c.args.toList).append (adN g (ns:=caps) fun n hn=>(hcaps n hn).1);have:=hcall O st loc w _ _ K h g hO hargs;have hrun:(execOp a.eval o).run P w=.ok (.enter k (c.args.toList.map a.eval++caps.map fun n=>(loc n).v).toArray) w:=by
      have e1:(c.args.map a.eval)++(caps.map fun n=>((aD O st loc w).loc n).v).toArray=(c.args.toList.map a.eval++caps.map fun n=>(loc n).v).toArray:=by
       apply aj.1;simp[aD]
      have e2:resolve a.eval c o.type=pure {target:=.fn (.func k) (caps.map fun n=>((aD O st loc w).loc n).v).toArray,args:=c.args.map a.eval}:=by
       simp[resolve,hcal,hfv,Deferred.ofValue]
      simp only[execOp,hop,e2,pure_bind,invoke,e1];exact Bi hfn hbody hname _ w
     unfold bj;rw[hrun];refine bx this ?_;rintro e w' ⟨v,sv,st',loc',rfl,k1,k2,k3,k4,k5,k6⟩;refine⟨v,sv,st',loc',rfl,k1,k2,fun hl =>?_,k4,k5,k6⟩;cases q with
     |true=>exact k3 rfl
     |false=>
      exfalso;have:kindOf cx o=3:=by
       unfold kindOf;simp only[hop,hcal];split
       ·rename_i heq;cases heq
       ·rename_i heq;cases heq
       ·rename_i heq;cases heq
       ·rename_i f' heq
        have hfe:f=.func f':=by cases heq;rfl
        subst hfe;simp only[fC,ev]at hf;cases hf;rw[hsp]
       ·rw[show vw cx o.dst=ψ by simpa using hstill]
       ·rfl
      rw[this]at hl;cases hl
    ·exact h.elim
   ·exact h.elim
  ·rename_i hcal
   split at h
   ·rename_i s x t t' harg hty
    split at h
    ·rename_i htt
     have htt:=ag htt;subst htt;have h1:c.args= #[s,x]:=aj.1 harg;have h2:c.argTypes= #[t,t]:=aj.1 hty;have happ:∃sv v st' loc' w',(K sv st').holds/\st'.env=st.env/\Good cx.eT X (aD O st' loc' w')/\Tr (aD O st loc w) (aD O st' loc' w')/\eK cx.eT (aD O st' loc' w') sv v/\
       (b7 #[t,t] o.type #[a.eval s,a.eval x]).run P w=.ok v w':=by
      have hs:=cB he s;have hx:=cB he x;split at h
      ·rename_i n m hl1 hl2
       rw[hl1]at hs;rw[hl2]at hx;exact M3 hok.toTyOK g hO hs hx h
      ·rename_i n hl1
       rw[hl1]at hs;split at h
       ·exact N2 hok.toTyOK g hO hs hx h
       ·exact xM (P:=P) (ty:=o.type) hok.toTyOK g hO hs hx h
      ·exact xM (P:=P) (ty:=o.type) hok.toTyOK g hO hs hx h
     obtain⟨sv,v,st',loc',w',k1,k2,k3,k4,k5,k6⟩:=happ;have hk:ab (kindOf cx o) 3=φ:=by simp[kindOf,hop,hcal]
     refine fX (w':=w') (v:=v) ?_ ⟨v,sv,st',loc',rfl,k1,k2,fun e=>(by rw[hk]at e;cases e),k3,k4,k5⟩;simp[execOp,hop,resolve,hcal,h1,h2,invoke,builtin,k6]
    ·split at h
     case h_2=>exact h.elim
     rename_i e' xs n ys ht1 ht2 hs1 hx1;have h1:c.args= #[s,x]:=aj.1 harg;have h2:c.argTypes= #[t,t']:=aj.1 hty;obtain⟨te,ti,td,hu,hf⟩:=jr hok.toTyOK ht1;obtain⟨z,hz,hzr⟩:=hf.zero;have hzs:z.cells.size=(Ty.int .u8).size:=by rw[<-b8];exact(nz (S:=aD O st loc w) (cx:=cx) hzr).length.symm.trans (kH _)
     have hs:=cB he s;have hx:=cB he x;rw[hs1]at hs;rw[hx1]at hx;obtain⟨hx,hxl⟩:=lJ.1 hx;have hu':P.underlying t'=ξ .string:=CS hok.toTyOK ht2;obtain⟨sv,v,st',loc',w',k1,k2,k3,k4,k5,k6⟩:=xa (t:=t) (t':=t') (ty:=o.type) g hO hu hf hz hzs hs (A8.aiI hu hu' hf hz ys _ _) h;have hk:ab (kindOf cx o) 3=φ:=by simp[kindOf,hop,hcal]
     refine fX (w':=w') (v:=v) ?_ ⟨v,sv,st',loc',rfl,k1,k2,fun e=>(by rw[hk]at e;cases e),k3,k4,k5⟩;simp[execOp,hop,resolve,hcal,h1,h2,invoke,builtin,hx,k6]
   ·exact h.elim
  ·rename_i hcal
   split at h
   ·rename_i d s t t' harg hty
    have h1:c.args= #[d,s]:=aj.1 harg;have h2:c.argTypes= #[t,t']:=aj.1 hty;obtain⟨sv,v,st',loc',w',k1,k2,k3,k4,k5,k6⟩:=NX (P:=P) (t':=t') (ty:=o.type) hok.toTyOK g hO (cB he d) (cB he s) h;have hk:ab (kindOf cx o) 3=φ:=by simp[kindOf,hop,hcal]
    refine fX (w':=w') (v:=v) ?_ ⟨v,sv,st',loc',rfl,k1,k2,fun e=>(by rw[hk]at e;cases e),k3,k4,k5⟩;simp[execOp,hop,resolve,hcal,h1,h2,invoke,builtin,k6]
   ·exact h.elim
  ·rename_i hcal
   split at h
   ·rename_i x y harg
    have h1:c.args= #[x,y]:=aj.1 harg;obtain⟨c',v,k1,k2,k3⟩:=yG (P:=P) (cB he x) (cB he y) h;refine fX (w':=w) (v:=v) ?_ ⟨v,_,st,loc,rfl,k1,rfl,fun _=>Below.refl _ _,g,Tr.refl _,k2⟩;have k3:=k3 w;simp only[if_true]at k3;simp[execOp,hop,resolve,hcal,h1,invoke,builtin,dT,k3]
   ·exact h.elim
  ·rename_i hcal
   split at h
   ·rename_i x y harg
    have h1:c.args= #[x,y]:=aj.1 harg;obtain⟨c',v,k1,k2,k3⟩:=yG (P:=P) (cB he x) (cB he y) h;refine fX (w':=w) (v:=v) ?_ ⟨v,_,st,loc,rfl,k1,rfl,fun _=>Below.refl _ _,g,Tr.refl _,k2⟩;have k3:=k3 w;simp only[az,if_false]at k3;simp[execOp,hop,resolve,hcal,h1,invoke,builtin,ec,k3]
   ·exact h.elim
  ·exact read h
 ·exact read h
def yH{st:St}{o:Oper}{K:SV->St->VC}{vc:VC}(h:Gf cx st o K=ξ vc):kindOf cx o=3:=by
 unfold Gf at h;split at h
 ·rename_i hop;simp[kindOf,hop]
 ·rename_i hop;simp[kindOf,hop]
 ·rename_i hop;simp[kindOf,hop]
 ·rename_i hop;simp[kindOf,hop]
 ·rename_i hop;simp[kindOf,hop]
 ·rename_i hop;simp[kindOf,hop]
 ·rename_i c hop
  split at h
  ·rename_i hcal;simp[kindOf,hop,hcal]
  ·rename_i hcal
   split at h
   ·rename_i x t harg hty
    split at h
    ·rename_i p hp;simp[kindOf,hop,hcal,hty,hp]
    ·cases h
   ·cases h
  ·cases h
 ·cases h
def adO(hok:nU P cx X){O:aO}{st:St}{loc:Nat->Loc}{w:World}{a:Act}(g:Good cx.eT X (aD O st loc w))(hO:gx O w)(he:iP cx.eT (aD O st loc w) st.env a)
  {o:Oper}{K:SV->St->VC}(h:(Bh cx st o K).holds):o.wp P a w (No cx X O K st (aD O st loc w) (ab (kindOf cx o) 3) a o.dst) Q:=by
 unfold Bh at h;split at h
 ·rename_i vc hm
  have hk:ab (kindOf cx o) 3=φ:=by rw[yH hm];rfl
  obtain⟨sv,v,st',loc',w',h1,h2,h3,h4,h5,h6⟩:=Se hok.toTyOK g hO he hm h;rcases h6 with h6|⟨h6,rfl⟩
  ·exact fX h6 ⟨v,sv,st',loc',rfl,h1,h2,fun e=>(by rw[hk]at e;cases e),h3,h4,h5⟩
  ·unfold bj
   rw[h6];exact⟨undef,_,st',loc',rfl,h1,h2,fun e=>(by rw[hk]at e;cases e),h3,h4,aa⟩
 ·exact Zf hok g hO he h
end
inductive tL (ops:Array Oper) (i:Nat):Nat->Prop
 |dir {j o e}:ops[j]?=ξ o->e∈o.after->al .any e=φ->e.on=i->tL ops i j
 |step {j o e}:ops[j]?=ξ o->e∈o.after->al .any e=φ->tL ops i e.on->tL ops i j
def xO(ops:Array Oper)(listed:Array Bool):Prop:=
 ∀j o,ops[j]?=ξ o->listed.getD j ψ=φ->∀e∈o.after,al .any e=φ->listed.getD e.on ψ=φ
def tL.listed{ops:Array Oper}{listed:Array Bool}{i j:Nat}(h:tL ops i j)(hc:xO ops listed):(∀o,ops[j]?=ξ o->∀e∈o.after,al .any e=φ->listed.getD e.on ψ=φ)->listed.getD i ψ=φ:=by
 induction h with
 |dir ho he hb hi=>intro hj;rw[<-hi];exact hj _ ho _ he hb
 |step ho he hb _ ih=>intro hj;exact ih fun o' ho'=>hc _ o' ho' (hj _ ho _ he hb)
def N5(ms:List Nat)(o:Oper):Nat:=
 o.after.toList.foldl (fun s e=>match al .any e with
  |true=>s ||| (1<<< e.on) ||| ms.getD e.on 0
  |false=>s) 0
def sG:List Oper->List Nat->List Nat
 |[],ms=>ms
 |o :: r,ms=>sG r (ms++[N5 ms o])
def Gi{k i:Nat}(h:(1<<< k).testBit i=φ):k=i:=by
 rw[c7,cd]at h;simpa using h
def Wi{ops:Array Oper}{ms:List Nat}(hms:∀j,j<ms.length->∀i,(ms.getD j 0).testBit i=φ->tL ops i j){j:Nat}{o:Oper}(ho:ops[j]?=ξ o) :
  ∀i,(N5 ms o).testBit i=φ->tL ops i j:=by
 intro i hi;unfold N5 at hi;have key:∀(l:List Edge) (s:Nat),(∀e∈l,e∈o.after)->(s.testBit i=φ->tL ops i j)->
   (l.foldl (fun s e=>match al .any e with|true=>s ||| (1<<< e.on) ||| ms.getD e.on 0|false=>s) s).testBit i=φ->tL ops i j:=by
  intro l;induction l with
  |nil=>intro s _ hs h;exact hs h
  |cons e l ih=>
   intro s hl hs h;simp only[cw]at h;refine ih _ (fun e' he'=>hl e' (by simp[he'])) ?_ h;intro hb;split at hb
   ·rename_i hbind
    rw[cf,cf]at hb;simp only[cg]at hb;rcases hb with(hb|hb)|hb
    ·exact hs hb
    ·exact .dir ho (hl e ς) hbind (Gi hb)
    ·by_cases hlt:e.on<ms.length
     ·exact .step ho (hl e ς) hbind (hms _ hlt i hb)
     ·rw[List.getD_eq_getElem?_getD,List.getElem?_eq_none ω]at hb
      simp at hb
   ·exact hs hb
 exact key o.after.toList 0 (fun e he=>by simpa using he) ς hi
def Sf{ops:Array Oper}:∀(r:List Oper) (ms:List Nat),(∀j,j<ms.length->∀i,(ms.getD j 0).testBit i=φ->tL ops i j)->(∀k o,r[k]?=ξ o->ops[ms.length+k]?=ξ o)->
  ∀j i,((sG r ms).getD j 0).testBit i=φ->tL ops i j:=by
 intro r;induction r with
 |nil=>
  intro ms hms _ j i h;by_cases hlt:j<ms.length
  ·exact hms j hlt i h
  ·simp only[sG]at h
   rw[List.getD_eq_getElem?_getD,List.getElem?_eq_none ω]at h;simp at h
 |cons o r ih=>
  intro ms hms hr;refine ih _ ?_ ?_
  ·intro j hj i h
   rw[bh,ed]at hj;by_cases hlt:j<ms.length
   ·rw[List.getD_eq_getElem?_getD,List.getElem?_append_left hlt,<-List.getD_eq_getElem?_getD]at h
    exact hms j hlt i h
   ·have e:j=ms.length:=by omega
    subst e;rw[List.getD_eq_getElem?_getD,List.getElem?_append_right (ai _)]at h;simp only[Nat.sub_self,List.getElem?_cons_zero,bq]at h;exact Wi hms (by simpa using hr 0 o rfl) i h
  ·intro k o' hk
   have:=hr (k+1) o' (by simpa using hk);rw[bh,ed,show ms.length+1+k=ms.length+(k+1)from by omega];exact this
def kQ(ops:List Oper):List Nat:=sG ops []
def Zg{ops:Array Oper}{i j:Nat}(h:((kQ ops.toList).getD j 0).testBit i=φ):tL ops i j:=
 Sf ops.toList [] (fun j hj=>by simp at hj) (fun k o hk=>by simpa using hk) j i h
def gM(w:World)(A:aO)(w':World)(A':aO):Prop:=∀b o v,¬A b o->w.cell? ⟨b,o,χ⟩=ξ v->w'.cell? ⟨b,o,χ⟩=ξ v/\¬A' b o
def gM.refl(w:World)(A:aO):gM w A w A:=fun _ _ _ h h'=>⟨h',h⟩
def gM.trans{w1 w2 w3:World}{A1 A2 A3:aO}(h:gM w1 A1 w2 A2)(h':gM w2 A2 w3 A3):gM w1 A1 w3 A3:=fun b o v h1 h2=>have k:=h b o v h1 h2;h' b o v k.2 k.1
abbrev EY:=World->aO->World->aO->Prop
section
variable{P:Program}{ops:Array Oper}{Q:Exit->Act->World->Prop}{loud:Nat->Bool}
def wpS(P:Program)(ops:Array Oper)(loud:Nat->Bool)(Q:Exit->Act->World->Prop):Nat->Array Bool->Act->World->aO->Prop
 |0,listed,a,w,_=>au .any ops listed=[]/\Q .normal a w
 |n+1,listed,a,w,A=>(au .any ops listed=[]->Q .normal a w)/\
  ∀i∈au .any ops listed,wpOp P ops Q i (fun a' w'=>(loud i=ψ->Below w.heap.size w w')/\∃A',gM w A w' A'/\wpS P ops loud Q n (listed.setIfInBounds i φ) a' w' A') a w
def IQ:∀(n:Nat) (listed:Array Bool) (a:Act) (w:World) (A:aO),wpS P ops loud Q n listed a w A->wpAny P .any ops Q n listed a w
 |0,_,_,_,_,h=>h
 |n+1,_,_,_,_,h=>⟨h.1,fun i hi=>wpOp_mono (fun a' w' h'=>let⟨A',_,h2⟩:=h'.2;IQ n _ a' w' A' h2) (h.2 i hi)⟩
def ld(P:Program)(ops:Array Oper)(C:EY)(o:Oper)(v:Value)(a:Act)(w:World)(A:aO):Prop:=
 (ar o (yielded ops a.tmps)=φ/\∀w' A',C w A w' A'->(execOp a.eval o).run P w'=.ok (.value v) w')\/
 (ar o (yielded ops a.tmps)=ψ/\v=undef)
def ld.of_same{C:EY}(ht:∀a A b B c D,C a A b B->C b B c D->C a A c D){o:Oper}{v:Value}{a a':Act}{w w':World}{A A':aO}(hy:ld P ops C o v a w A)(hc:C w A w' A')(he:execOp a'.eval o=execOp a.eval o)
  (hw:ar o (yielded ops a'.tmps)=ar o (yielded ops a.tmps)):ld P ops C o v a' w' A':=by
 unfold ld at*;rw[he,hw];rcases hy with⟨h1,h2⟩|h
 ·exact .inl ⟨h1,fun w'' A'' hc'=>h2 w'' A'' (ht _ _ _ _ _ _ hc hc')⟩
 ·exact .inr h
def Zh{C:EY}(ht:∀a A b B c D,C a A b B->C b B c D->C a A c D){j:Nat}{oi oj:Oper}{v:Value}(hj:ops[j]?=ξ oj)(hap:oi.apart ops oj=φ)
  (hsi:∀cs b,oi.op≠.select cs b)(hsj:∀cs b,oj.op≠.select cs b)
  (hQ:∀c a w,Q (.panic c) (a.put oi.dst v) w->Q (.panic c) a w){K:Act->World->aO->Prop}{a:Act}{w:World}{A:aO}(hCw:∀w' A',(loud j=ψ->Below w.heap.size w w')->gM w A w' A'->C w A w' A')
  (hy:ld P ops C oi v a w A)(h:wpOp P ops Q j (fun a' w'=>(loud j=ψ->Below w.heap.size w w')/\∃A',gM w A w' A'/\K a' w' A') (a.put oi.dst v) w) :
  wpOp P ops Q j (fun a' w'=>(loud j=ψ->Below w.heap.size w w')/\∃A',gM w A w' A'/\ld P ops C oi v a' w' A'/\K (a'.put oi.dst v) w' A') a w:=by
 obtain⟨h1,h2,h3⟩:=Oper.apart_spec hap;have keep:∀(a:Act) (w':World) (A':aO),ld P ops C oi v a w A->C w A w' A'->∀u,ld P ops C oi v (a.put oj.dst u) w' A':=fun a w' A' hy hc u=>
  hy.of_same ht hc (execOp_put oi hsi a oj.dst u h3) (wanted_put oi a oj.dst u h3)
 have keepD:∀d,ld P ops C oi v {a with defers:=d :: a.defers} w A:=fun d=>by
  unfold ld at*;exact hy
 have fin:∀(u:Value) (w':World),((loud j=ψ->Below w.heap.size w w')/\∃A',gM w A w' A'/\K ((a.put oi.dst v).put oj.dst u) w' A')->
   (loud j=ψ->Below w.heap.size w w')/\∃A',gM w A w' A'/\ld P ops C oi v (a.put oj.dst u) w' A'/\K ((a.put oj.dst u).put oi.dst v) w' A':=by
  rintro u w' ⟨k1,A',k2,k3⟩;exact⟨k1,A',k2,keep a w' A' hy (hCw _ _ k1 k2) u,by rw[<-Act.put_comm a v u h2];exact k3⟩
 unfold wpOp at*;simp only[hj]at*;rw[wanted_put oj a oi.dst v h1]at h;split
 ·rename_i hw
  simp only[hw,if_true]at h;rcases h with h|⟨hasks,hlets⟩
  case inr=>exact .inr ⟨by unfold Oper.asks at*;rw[execOp_put oj hsj a oi.dst v h1]at hasks;exact hasks,hlets⟩
  refine .inl ?_;unfold bj at*;rw[execOp_put oj hsj a oi.dst v h1]at h;generalize (execOp a.eval oj).run P w=r at*;cases r with
  |ok n w'=>
   cases n <;> simp only[c8]at h ⊢
   case value u=>exact fin u w' h
   case skip=>exact fin _ w' h
   case defer d=>
    obtain⟨k1,A',k2,k3⟩:=h;refine⟨k1,A',k2,keep _ w' A' (keepD d) (hCw _ _ k1 k2) _,?_⟩;rw[<-Act.put_comm _ v undef h2,<-Act.put_defers];exact k3
   case enter f args=>
    refine bx h fun e w'' he =>?_
    cases e with
    |returned u=>exact fin u w'' he
    |panicked c=>exact hQ _ _ _ he
    |outgrown=>exact he
   case row row args=>exact Rows.mono h fun u w'' he=>fin u w'' he
  |halt x w'=>
   cases x <;> simp only[c8]at h ⊢
   case panic u=>exact hQ _ _ _ h
 ·rename_i hw
  simp only[hw]at h;exact fin _ w h
def ld.wpOp{C:EY}(hr:∀w A,C w A w A){i:Nat}{o:Oper}{v:Value}{a:Act}{w:World}{A:aO}(hi:ops[i]?=ξ o)(hy:ld P ops C o v a w A)
  {K:Act->World->aO->Prop}(h:K (a.put o.dst v) w A):wpOp P ops Q i (fun a' w'=>(loud i=ψ->Below w.heap.size w w')/\∃A',gM w A w' A'/\K a' w' A') a w:=by
 unfold Go.wpOp;simp only[hi];rcases hy with⟨hw,hv⟩|⟨hw,rfl⟩
 ·simp only[hw,if_true,bj,hv w A (hr w A),c8];exact .inl ⟨fun _=>Below.refl _ _,A,gM.refl _ _,h⟩
 ·simp only[hw,az,if_false];exact⟨fun _=>Below.refl _ _,A,gM.refl _ _,h⟩
def yI{listed:Array Bool}{i:Nat}(hc:xO ops listed)(hr:i∈au .any ops listed):xO ops (listed.setIfInBounds i φ):=by
 intro j o ho hj e he hb;by_cases hij:i=j
 ·subst hij
  obtain⟨_,o',ho',hall⟩:=mem_ready.1 hr;rw[ho]at ho';cases ho';exact getD_set_true (hall e he hb)
 ·rw[getD_set_ne ψ hij]at hj
  exact getD_set_true (hc j o ho hj e he hb)
def Zi{C:EY}(hrefl:∀w A,C w A w A)(ht:∀a A b B c D,C a A b B->C b B c D->C a A c D){i:Nat}{oi:Oper}{v:Value}(hi:ops[i]?=ξ oi)
  (hsel:∀(j:Nat) (o:Oper) cs b,ops[j]?=ξ o->o.op≠.select cs b)
  (hQ:∀c a w,Q (.panic c) (a.put oi.dst v) w->Q (.panic c) a w) :
  ∀(fuel:Nat) (listed:Array Bool) (a:Act) (w:World) (A:aO),xO ops listed->
   (∀j oj,ops[j]?=ξ oj->j≠i->listed.getD j φ=ψ->(∀e∈oj.after,al .any e=φ->e.on≠i)->oi.apart ops oj=φ)->
   ((∀w A w' A',gM w A w' A'->C w A w' A')\/((∀w A w' A',Below w.heap.size w w'->C w A w' A')/\∀j,listed.getD j φ=ψ->j≠i->loud j=φ->tL ops i j))->
   i∈au .any ops listed->ld P ops C oi v a w A->
   wpS P ops loud Q fuel (listed.setIfInBounds i φ) (a.put oi.dst v) w A->wpS P ops loud Q (fuel+1) listed a w A:=by
 intro fuel;induction fuel with
 |zero=>
  intro listed a w A _ _ _ hr hy H;refine⟨fun h=>(by rw[h]at hr;cases hr),fun j hj =>?_⟩;by_cases hji:j=i
  ·subst hji;exact hy.wpOp hrefl hi H
  ·have:=ready_mono hj hji
   rw[H.1]at this;cases this
 |succ fuel ih=>
  intro listed a w A ik hfree hC hr hy H;refine⟨fun h=>(by rw[h]at hr;cases hr),fun j hj =>?_⟩;by_cases hji:j=i
  ·subst hji;exact hy.wpOp hrefl hi H
  ·have h1:=H.2 j (ready_mono hj hji)
   obtain⟨hjun,oj,hoj,hall⟩:=mem_ready.1 hj;have hiun:listed.getD i ψ≠φ:=by
    have h0:=(mem_ready.1 hr).1;rcases a7 i listed.size with h'|h'
    ·simp[h']at h0 ⊢;exact h0
    ·simp[Array.getElem?_eq_none h']
   have hnot:∀e∈oj.after,al .any e=φ->e.on≠i:=fun e he hb heq=>hiun (heq▸hall e he hb)
   have hCw:∀w' A',(loud j=ψ->Below w.heap.size w w')->gM w A w' A'->C w A w' A':=by
    intro w' A' hb hd;rcases hC with hC|⟨hC1,hC2⟩
    ·exact hC w A w' A' hd
    ·refine hC1 w A w' A' (hb ?_)
     cases hl:loud j
     ·rfl
     ·exact absurd ((hC2 j hjun hji hl).listed ik (fun o ho=>by rw[hoj]at ho;cases ho;exact hall)) hiun
   have h2:=Zh ht hoj (hfree j oj hoj hji hjun hnot) (fun cs b=>hsel i oi cs b hi) (fun cs b=>hsel j oj cs b hoj) hQ hCw hy h1;have hfree':∀k ok,ops[k]?=ξ ok->k≠i->(listed.setIfInBounds j φ).getD k φ=ψ->
     (∀e∈ok.after,al .any e=φ->e.on≠i)->oi.apart ops ok=φ:=fun k ok hk hki hun hno=>by
    refine hfree k ok hk hki ?_ hno;by_cases hjk:j=k
    ·subst hjk;exact hjun
    ·rw[getD_set_ne φ hjk]at hun;exact hun
   have hC':(∀w A w' A',gM w A w' A'->C w A w' A')\/((∀w A w' A',Below w.heap.size w w'->C w A w' A')/\∀k,(listed.setIfInBounds j φ).getD k φ=ψ->k≠i->loud k=φ->tL ops i k):=by
    rcases hC with hC|⟨hC1,hC2⟩
    ·exact .inl hC
    ·refine .inr ⟨hC1,fun k hk=>hC2 k ?_⟩
     by_cases hjk:j=k
     ·subst hjk;exact hjun
     ·rw[getD_set_ne φ hjk]at hk;exact hk
   refine wpOp_mono (fun a' w' h3 =>?_) h2;obtain⟨k1,A',k2,k3,k4⟩:=h3;refine⟨k1,A',k2,ih (listed.setIfInBounds j φ) a' w' A' (yI ik hj) hfree' hC' (ready_mono hr (Ne.symm hji)) k3 ?_⟩;rw[Array.setIfInBounds_comm _ _ hji];exact k4
end
def Gj(cx:Cx)(st:St)(dst:Option Tmp)(sv:SV)(K:St->VC):VC:=
 match dst with
 |some d=>match ao d cx.N with
  |true=>K {st with env:=(d,sv) :: st.env}
  |false =>.ff
 |none=>K st
def eqB:Bool->Bool->Bool
 |true,b=>b
 |false,φ=>ψ
 |false,ψ=>φ
def qh(st:St)(d:Nat)(b:Bool):St:={st with env:=(d,.s (.one (.lit b))) :: st.env}
def CW(opl:List Oper)(st:St)(o:Oper)(exec skip:St->VC):VC:=
 match o.guard with
 |none=>exec st
 |some (j,want)=>match opl[j]? with
  |some oj=>match oj.dst with
   |some d=>match look st.env d with
    |some (.s (.one (.lit b)))=>match eqB b want with
     |true=>exec st
     |false=>skip st
    |some (.s (.one (.d .bool g)))=>match want with
     |true =>.ite g (exec (qh st d φ)) (skip (qh st d ψ))
     |false =>.ite g (skip (qh st d φ)) (exec (qh st d ψ))
    |some (.pD [])=>skip st
    |_ =>.ff
   |none =>.ff
  |none =>.ff
def pI(cx:Cx)(opl:List Oper)(st:St)(o:Oper)(K:St->VC):VC:=
 CW opl st o (fun st=>Bh cx st o fun sv st'=>Gj cx st' o.dst sv K) (fun st=>Gj cx st o.dst (.pD []) K)
def Np(cx:Cx)(opl:List Oper):List Oper->St->(St->VC)->VC
 |[],st,K=>K st
 |o :: r,st,K=>pI cx opl st o fun st'=>Np cx opl r st' K
def my(cx:Cx)(opl:List Oper)(j:Nat):Bool:=
 match opl[j]? with
 |some o=>ab (kindOf cx o) 3
 |none=>ψ
def xP(cx:Cx)(opl:List Oper)(ms:List Nat)(listed:Array Bool)(i:Nat):Bool:=
 match opl[i]? with
 |some o=>match kindOf cx o with
  |0=>φ
  |1=>(bz opl.length).all fun j=>ab j i || listed.getD j φ || !(my cx opl j) || (ms.getD j 0).testBit i
  |_=>ψ
 |none=>ψ
def yJ(cx:Cx)(ops:Array Oper)(st:St)(i:Nat):Bool:=
 match ops[i]? with
 |some o=>match o.op,o.guard with
  |.load _ x,χ=>match fC st.env x with
   |.q9 _ _=>φ
   |_=>ψ
  |_,_=>ψ
 |none=>ψ
def Nq:List Nat->(Nat->VC)->VC
 |[],_ =>.leaf True
 |[i],f=>f i
 |i :: j :: r,f =>.both (f i) (Nq (j :: r) f)
def pr(cx:Cx)(ops:Array Oper)(ms:List Nat):Nat->Array Bool->St->(St->VC)->VC
 |0,listed,st,K=>match au .any ops listed with
  |[]=>K st
  |_ =>.ff
 |n+1,listed,st,K=>match au .any ops listed with
  |[]=>K st
  |r :: rs=>match(r :: rs).find? (fun i=>xP cx ops.toList ms listed i || yJ cx ops st i)with
   |some i=>match ops[i]? with
    |some o=>pI cx ops.toList st o fun st'=>pr cx ops ms n (listed.setIfInBounds i φ) st' K
    |none =>.ff
   |none=>Nq (r :: rs) fun i=>match ops[i]? with
    |some o=>pI cx ops.toList st o fun st'=>pr cx ops ms n (listed.setIfInBounds i φ) st' K
    |none =>.ff
def EZ(o:Oper):Nat:=o.after.toList.foldl (fun s e=>match al .any e with
 |true=>s ||| (1<<< e.on)
 |false=>s) 0
def Zj(am m i:Nat):Bool:=!(m.testBit i)&&ab (am&&&m) am
def qG:List Nat->Nat->Nat->List Nat
 |[],_,_=>[]
 |am :: r,m,i=>match Zj am m i with
  |true=>i :: qG r m (i+1)
  |false=>qG r m (i+1)
def yK(m i:Nat):List Bool->List Nat->Nat->Bool
 |l :: ls,a :: ms,j=>match l&&(!(ab j i)&&(!(m.testBit j)&&!(a.testBit i)))with
  |true=>ψ
  |false=>yK m i ls ms (j+1)
 |_,_,_=>φ
def CX(ks:List Nat)(ls:List Bool)(ms:List Nat)(m i:Nat):Bool:=
 match ks.getD i 2 with
 |0=>φ
 |1=>yK m i ls ms 0
 |_=>ψ
def anyM(cx:Cx)(ops:Array Oper)(am ks:List Nat)(ls:List Bool)(ms:List Nat):Nat->Nat->St->(St->VC)->VC
 |0,m,st,K=>match qG am m 0 with
  |[]=>K st
  |_ =>.ff
 |n+1,m,st,K=>match qG am m 0 with
  |[]=>K st
  |r :: rs=>match(r :: rs).find? (fun i=>CX ks ls ms m i || yJ cx ops st i)with
   |some i=>match ops[i]? with
    |some o=>pI cx ops.toList st o fun st'=>anyM cx ops am ks ls ms n (m ||| (1<<< i)) st' K
    |none =>.ff
   |none=>Nq (r :: rs) fun i=>match ops[i]? with
    |some o=>pI cx ops.toList st o fun st'=>anyM cx ops am ks ls ms n (m ||| (1<<< i)) st' K
    |none =>.ff
def aiL(cx:Cx)(ops:Array Oper)(st:St)(K:St->VC):VC:=
 anyM cx ops (ops.toList.map EZ) (ops.toList.map (kindOf cx)) (ops.toList.map fun o=>ab (kindOf cx o) 3) (kQ ops.toList) ops.size 0 st K
def IS(oj:Oper)(i:Nat):Bool:=oj.after.any fun e=>al .any e&&ab e.on i
def yL(ops:Array Oper):Bool:=
 ee ops&&(bz ops.size).all fun i=>(bz ops.size).all fun j=>match ops[i]?,ops[j]? with
  |some oi,ξ oj=>ab j i || IS oj i || IS oi j || oi.apart ops oj
  |_,_=>φ
section
variable{X:Ext}{P:Program}{cx:Cx}{Q:Exit->Act->World->Prop}
structure hZ (cx:Cx) (S:bT) (st:St) (a:Act):Prop where
 size:a.tmps.size=cx.N
 defers:a.defers=[]
 env:iP cx.eT S st.env a
def allM:Nat:=4000000
def qi(W:List Nat)(st st':St):Prop:=allM∉W->∀t,t∉W->∀v,look st'.env t=ξ v->look st.env t=ξ v
def ir(cx:Cx)(X:Ext)(O:aO)(K:St->VC)(W:List Nat)(st:St)(S:bT):Act->World->Prop:=
 fun a' w'=>∃st' loc',(K st').holds/\Good cx.eT X (aD O st' loc' w')/\Tr S (aD O st' loc' w')/\hZ cx (aD O st' loc' w') st' a'/\qi W st st'
def iP.tr{S S':bT}{env:List (Nat×SV)}{a:Act}(h:iP cx.eT S env a)(t:Tr S S'):iP cx.eT S' env a:=fun i sv hi=>(h i sv hi).tr t
def hZ.put{S S':bT}{st st':St}{a:Act}{d:Nat}{v:Value}{sv:SV}(h:hZ cx S st a)(t:Tr S S')(he:st'.env=(d,sv) :: st.env)(hd:d<cx.N)(hv:eK cx.eT S' sv v):hZ cx S' st' (a.put (ξ d) v):=by
 refine⟨by simp[Act.put,h.size],h.defers,fun i sv' hi =>?_⟩;rw[he,cX]at hi;simp only[Act.put];by_cases e:d=i
 ·rw[π e]at hi
  cases hi;subst e;rw[ba,Array.getElem?_setIfInBounds,π rfl,π (by rw[h.size];exact hd)];exact hv
 ·rw[ε e]at hi
  rw[ba,Array.getElem?_setIfInBounds,ε e,<-ba];exact(h.env i sv' hi).tr t
def qH{O:aO}{st st0:St}{S:bT}{loc:Nat->Loc}{w:World}{a:Act}{dst:Option Tmp}{sv:SV}{v:Value}{K:St->VC}{W:List Nat}(h:(Gj cx st dst sv K).holds)
  (hA:hZ cx S st0 a)(ht:Tr S (aD O st loc w))(he:st.env=st0.env)(hv:eK cx.eT (aD O st loc w) sv v)(g:Good cx.eT X (aD O st loc w))(hW:∀d,dst=ξ d->d∈W) :
  ir cx X O K W st0 S (a.put dst v) w:=by
 unfold Gj at h;split at h
 ·rename_i d
  split at h
  ·rename_i hd
   refine⟨{st with env:=(d,sv) :: st.env},loc,h,g,ht,?_,fun _ t htW v hv =>?_⟩
   ·have:=hA.put (st':={st with env:=(d,sv) :: st.env}) ht (by rw[<-he]) (oS hd) hv
    exact⟨this.size,this.defers,this.env⟩
   ·have hv:look ((d,sv) :: st.env) t=ξ v:=hv
    rw[cX,ε (fun(e:d=t)=>htW (e▸hW d rfl)),he]at hv;exact hv
  ·exact h.elim
 ·refine⟨st,loc,h,g,ht,⟨hA.size,hA.defers,by rw[he];exact hA.env.tr ht⟩,fun _ t _ v hv=>by rw[he]at hv;exact hv⟩
def ag7(a b:Bool):eqB a b=(a == b):=by cases a <;> cases b <;> rfl
def Zk{O:aO}{st:St}{loc:Nat->Loc}{w:World}{a:Act}{d:Nat}{b:Bool}(hA:hZ cx (aD O st loc w) st a)(hv:a.tmps.getD d undef=.bool b) :
  hZ cx (aD O (qh st d b) loc w) (qh st d b) a:=by
 refine⟨hA.size,hA.defers,fun i sv hi =>?_⟩;simp only[qh,cX]at hi;by_cases e:d=i
 ·rw[π e]at hi
  cases hi;subst e;rw[hv];rfl
 ·rw[ε e]at hi
  exact hA.env i sv hi
def N6{ops:Array Oper}{a:Act}{j d:Nat}{oj:Oper}{b:Bool}(hj:ops[j]?=ξ oj)(hd:oj.dst=ξ d)(hlt:d<a.tmps.size)(hv:a.tmps.getD d undef=.bool b):yielded ops a.tmps j=ξ b:=by
 have:a.tmps[d]?=ξ (.bool b):=by
  rw[Array.getElem?_eq_getElem hlt];rw[ba,Array.getElem?_eq_getElem hlt]at hv;simpa using hv
 simp[yielded,hj,hd,this]
def AG{O:aO}{st:St}{loc:Nat->Loc}{w:World}{a:Act}{ops:Array Oper}{o:Oper}{exec skip:St->VC}{W:List Nat}(hA:hZ cx (aD O st loc w) st a)(g:Good cx.eT X (aD O st loc w))
  (hW:∀(j:Nat) (oj:Oper) (d:Nat),ops[j]?=ξ oj->oj.dst=ξ d->d∈W)
  (h:(CW ops.toList st o exec skip).holds) :
  ∃st',hZ cx (aD O st' loc w) st' a/\Good cx.eT X (aD O st' loc w)/\aD O st' loc w=aD O st loc w/\qi W st st'/\
   ((ar o (yielded ops a.tmps)=φ/\(exec st').holds)\/(ar o (yielded ops a.tmps)=ψ/\(skip st').holds)):=by
 unfold CW at h;split at h
 ·rename_i hg
  exact⟨st,hA,g,rfl,fun _ _ _ _ h=>h,.inl ⟨by simp[ar,hg],h⟩⟩
 ·rename_i j want hg
  split at h
  ·rename_i oj hj
   have hj':ops[j]?=ξ oj:=by rw[<-Array.getElem?_toList];exact hj
   split at h
   ·rename_i d hd
    have key:∀b,a.tmps.getD d undef=.bool b->ar o (yielded ops a.tmps)=(b == want):=by
     intro b hb;have hlt:d<a.tmps.size:=by
      rcases a7 d a.tmps.size with h'|h'
      ·exact h'
      ·rw[ba,Array.getElem?_eq_none h']at hb;cases hb
     simp[ar,hg,N6 hj' hd hlt hb]
    have lit:∀b,a.tmps.getD d undef=.bool b->hZ cx (aD O (qh st d b) loc w) (qh st d b) a/\Good cx.eT X (aD O (qh st d b) loc w)/\aD O (qh st d b) loc w=aD O st loc w/\qi W st (qh st d b):=
     fun b hb=>⟨Zk hA hb,g,rfl,fun _ t ht v hv=>by simp only[qh,cX]at hv;rwa [ε (fun(e:d=t)=>ht (e▸hW j oj d hj' hd))]at hv⟩
    split at h
    ·rename_i b hl
     have hv:a.tmps.getD d undef=.bool b:=hA.env d _ hl;have hk:=key b hv;rw[<-ag7]at hk;split at h
     ·rename_i he;exact⟨st,hA,g,rfl,fun _ _ _ _ h=>h,.inl ⟨by rw[hk,he],h⟩⟩
     ·rename_i he;exact⟨st,hA,g,rfl,fun _ _ _ _ h=>h,.inr ⟨by rw[hk,he],h⟩⟩
    ·rename_i b hl
     have hv:a.tmps.getD d undef=.bool b:=(fW (eT:=cx.eT) (S:=aD O st loc w) (b:=b)).1 (hA.env d _ hl);have hk:=key b hv;obtain⟨l1,l2,l3,l4⟩:=lit b hv;split at h
     ·cases b
      ·exact⟨_,l1,l2,l3,l4,.inr ⟨by rw[hk];rfl,h.2 rfl⟩⟩
      ·exact⟨_,l1,l2,l3,l4,.inl ⟨by rw[hk];rfl,h.1 rfl⟩⟩
     ·cases b
      ·exact⟨_,l1,l2,l3,l4,.inl ⟨by rw[hk];rfl,h.2 rfl⟩⟩
      ·exact⟨_,l1,l2,l3,l4,.inr ⟨by rw[hk];rfl,h.1 rfl⟩⟩
    ·rename_i hl
     obtain⟨vs,hv,hvs⟩:=hA.env d _ hl;cases hvs;have hy:yielded ops a.tmps j=χ:=by
      rw[ba]at hv;simp only[yielded,hj',hd,Option.bind_some];cases ht:a.tmps[d]? with
      |none=>rfl
      |some x=>rw[ht]at hv;simp only[bq]at hv;subst hv;rfl
     exact⟨st,hA,g,rfl,fun _ _ _ _ h=>h,.inr ⟨by simp[ar,hg,hy],h⟩⟩
    ·exact h.elim
   ·exact h.elim
  ·exact h.elim
def qi.trans{W:List Nat}{a b c:St}(h:qi W a b)(h':qi W b c):qi W a c:=fun hm t ht v hv=>h hm t ht v (h' hm t ht v hv)
def ir.mono{O:aO}{K:St->VC}{W:List Nat}{st st1:St}{S S1:bT}{a:Act}{w:World}(h:ir cx X O K W st1 S1 a w)(ht:Tr S S1)(ha:qi W st st1):ir cx X O K W st S a w:=by
 obtain⟨st',loc',k1,k2,k3,k4,k5⟩:=h;exact⟨st',loc',k1,k2,ht.trans k3,k4,ha.trans k5⟩
def Bk(hok:nU P cx X){O:aO}{st:St}{loc:Nat->Loc}{w:World}{a:Act}{ops:Array Oper}{o:Oper}{K:St->VC}{W:List Nat}(hA:hZ cx (aD O st loc w) st a)(g:Good cx.eT X (aD O st loc w))(hO:gx O w)
  (hW:∀(j:Nat) (oj:Oper) (d:Nat),ops[j]?=ξ oj->oj.dst=ξ d->d∈W)(hWo:∀d,o.dst=ξ d->d∈W)(h:(pI cx ops.toList st o K).holds) :
  if ar o (yielded ops a.tmps)then o.wp P a w (fun a' w'=>(ab (kindOf cx o) 3=ψ->Below w.heap.size w w')/\ir cx X O K W st (aD O st loc w) a' w') Q
  else ir cx X O K W st (aD O st loc w) (a.put o.dst undef) w:=by
 obtain⟨st',hA',g',hs,hag,hcase⟩:=AG hA g hW h;rcases hcase with⟨hw,h'⟩|⟨hw,h'⟩
 ·rw[π hw]
  refine da ?_ (adO hok g' hO hA'.env h');rintro a' w' ⟨v,sv,st2,loc2,rfl,k1,k2,k3,k4,k5,k6⟩;refine⟨fun hl=>k3 hl,?_⟩;exact(qH k1 hA' k5 k2 k6 k4 hWo).mono (by rw[hs];exact Tr.refl _) hag
 ·rw[ε (by simp[hw])]
  exact(qH (loc:=loc) (w:=w) h' hA' (Tr.refl _) rfl (show eK cx.eT _ (.pD []) undef from⟨[],rfl,.nil⟩) g' hWo).mono (by rw[hs];exact Tr.refl _) hag
def DE(hok:nU P cx X){O:aO}{ops:Array Oper}{W:List Nat}(hW:∀(j:Nat) (oj:Oper) (d:Nat),ops[j]?=ξ oj->oj.dst=ξ d->d∈W){K:St->VC}:∀(l:List Oper) {st:St} {loc:Nat->Loc} {w:World} {a:Act},(∀o∈l,∀d,o.dst=ξ d->d∈W)->
  hZ cx (aD O st loc w) st a->Good cx.eT X (aD O st loc w)->gx O w->(Np cx ops.toList l st K).holds->(∀st' loc' a' w',(K st').holds->Good cx.eT X (aD O st' loc' w')->Tr (aD O st loc w) (aD O st' loc' w')->hZ cx (aD O st' loc' w') st' a'->qi W st st'->Q .normal a' w')->
  wpList P ops Q l a w:=by
 intro l;induction l with
 |nil=>intro st loc w a _ hA g _ h hq;exact hq st loc a w h g (Tr.refl _) hA fun _ _ _ _ h=>h
 |cons o l ih=>
  intro st loc w a hWl hA g hO h hq;have hs:=Bk (Q:=Q) (P:=P) hok hA g hO hW (hWl o ς) h;have next:∀a' w',ir cx X O (fun st'=>Np cx ops.toList l st' K) W st (aD O st loc w) a' w'->wpList P ops Q l a' w':=by
   rintro a' w' ⟨st',loc',k1,k2,k3,k4,k5⟩;exact ih (fun o' ho'=>hWl o' (by simp[ho'])) k4 k2 (hO.tr k3.size) k1 fun st2 loc2 a2 w2 m1 m2 m3 m4 m5=>hq st2 loc2 a2 w2 m1 m2 (k3.trans m3) m4 (k5.trans m5)
  unfold wpList;split
  ·rename_i hw
   rw[π hw]at hs;exact .inl (da (fun a' w' h'=>next a' w' h'.2) hs)
  ·rename_i hw
   rw[ε hw]at hs;exact next _ _ hs
def Zl(hok:nU P cx X){O:aO}{st:St}{loc:Nat->Loc}{w:World}{a:Act}(g:Good cx.eT X (aD O st loc w))(hO:gx O w)(he:iP cx.eT (aD O st loc w) st.env a)
  {o:Oper}{K:SV->St->VC}(hk:kindOf cx o=0\/kindOf cx o=1)(h:(Bh cx st o K).holds) :
  ∃v sv st' loc',(K sv st').holds/\st'.env=st.env/\Good cx.eT X (aD O st' loc' w)/\Tr (aD O st loc w) (aD O st' loc' w)/\eK cx.eT (aD O st' loc' w) sv v/\
   ∀w',(kindOf cx o=0\/Below w.heap.size w w')->(execOp a.eval o).run P w'=.ok (.value v) w':=by
 have same:∀{sv:SV} {v:Value},(K sv st).holds->eK cx.eT (aD O st loc w) sv v->(∀w',(kindOf cx o=0\/Below w.heap.size w w')->(execOp a.eval o).run P w'=.ok (.value v) w')->
   ∃v sv st' loc',(K sv st').holds/\st'.env=st.env/\Good cx.eT X (aD O st' loc' w)/\Tr (aD O st loc w) (aD O st' loc' w)/\eK cx.eT (aD O st' loc' w) sv v/\
   ∀w',(kindOf cx o=0\/Below w.heap.size w w')->(execOp a.eval o).run P w'=.ok (.value v) w':=
  fun h1 h2 h3=>⟨_,_,st,loc,h1,rfl,g,Tr.refl _,h2,h3⟩
 have pure:(F2 cx st o.op fun sv=>K sv st).holds->∃v sv st' loc',(K sv st').holds/\st'.env=st.env/\Good cx.eT X (aD O st' loc' w)/\Tr (aD O st loc w) (aD O st' loc' w)/\eK cx.eT (aD O st' loc' w) sv v/\
   ∀w',(kindOf cx o=0\/Below w.heap.size w w')->(execOp a.eval o).run P w'=.ok (.value v) w':=by
  intro h;obtain⟨sv,v,h1,h2,h3⟩:=A0 (P:=P) hok.toTyOK g he h;exact same h1 h2 fun w' _=>h3 w'
 have mov:∀x ty,(∀w',(execOp a.eval o).run P w'=.ok (.value (a.eval x)) w')->(CU cx st x ty K).holds->∃v sv st' loc',(K sv st').holds/\st'.env=st.env/\Good cx.eT X (aD O st' loc' w)/\Tr (aD O st loc w) (aD O st' loc' w)/\eK cx.eT (aD O st' loc' w) sv v/\
   ∀w',(kindOf cx o=0\/Below w.heap.size w w')->(execOp a.eval o).run P w'=.ok (.value v) w':=by
  intro x ty hrun h;obtain⟨sv,st',loc',h1,h2,h3,h4,h5⟩:=DA g hO he h;exact⟨_,sv,st',loc',h1,h2,h3,h4,h5,fun w' _=>hrun w'⟩
 have read:(rN cx st o.op fun sv=>K sv st).holds->∃v sv st' loc',(K sv st').holds/\st'.env=st.env/\Good cx.eT X (aD O st' loc' w)/\Tr (aD O st loc w) (aD O st' loc' w)/\eK cx.eT (aD O st' loc' w) sv v/\
   ∀w',(kindOf cx o=0\/Below w.heap.size w w')->(execOp a.eval o).run P w'=.ok (.value v) w':=by
  intro h;unfold rN at h;simp only at h;split at h
  ·rename_i t x i hop
   split at h
   ·rename_i n hn
    obtain⟨k,hk',_⟩:=qf hn (cB he i);obtain⟨c,u,h1,h2,h3⟩:=JC (P:=P) hok.toTyOK g (k:=k) (cB he x) h;exact same h1 h2 fun w' _=>by simp[execOp,hop,hk',h3]
   ·exact h.elim
  ·rename_i t x f hop
   obtain⟨c,u,h1,h2,h3⟩:=Dy (P:=P) hok.toTyOK (cB he x) h;exact same h1 h2 fun w' _=>by simp[execOp,hop,h3]
  ·rename_i t x hop
   obtain⟨c,u,h1,h2,h3⟩:=yA (P:=P) hok.toTyOK g (cB he x) h;refine same h1 h2 fun w' hb =>?_
   have hb:Below w.heap.size w w':=by
    rcases hb with hb|hb
    ·simp[kindOf,hop]at hb
    ·exact hb
   simp[execOp,hop,h3 w' hb]
  ·rename_i t x lo hi hop
   obtain⟨c,u,h1,h2,h3⟩:=Dz (P:=P) hok.toTyOK g he (cB he x) h;exact same h1 h2 fun w' _=>by simp[execOp,hop,h3]
  ·exact pure h
 unfold Bh at h;split at h
 ·rename_i hm;rw[yH hm]at hk;omega
 unfold Gh at h;split at h
 ·rename_i s t x hop
  unfold EX at h;split at h
  ·rename_i hs ht;simp[kindOf,hop,ht]at hk
  ·rename_i hs ht;simp[kindOf,hop,ht]at hk
  ·exact read h
  ·exact h.elim
 ·rename_i x hop
  exact mov x _ (fun w'=>by simp[execOp,hop]) h
 ·rename_i x hop
  unfold Wh at h;split at h
  ·obtain⟨sv,st',loc',h1,h2,h3,h4,h5⟩:=Bg g hO he h
   exact⟨_,sv,st',loc',h1,h2,h3,h4,h5,fun w' _=>by simp[execOp,hop]⟩
  ·split at h
   ·rename_i hd
    exact same h (JL hd (nS he x)) fun w' _=>by simp[execOp,hop]
   ·exact mov x _ (fun w'=>by simp[execOp,hop]) h
 ·rename_i t hop;simp[kindOf,hop]at hk
 ·rename_i t x hop;simp[kindOf,hop]at hk
 ·rename_i t ps hop
  obtain⟨sv,v,h1,h2,h3⟩:=AE hok.toTyOK g he h;exact same h1 h2 fun w' _=>by have:=h3 w';simp only[execOp,hop,af,ak];rw[this];rfl
 ·rename_i t n ps hop;simp[kindOf,hop]at hk
 ·rename_i t l c hop;simp[kindOf,hop]at hk
 ·rename_i t x v hop;simp[kindOf,hop]at hk
 ·rename_i fn first caps hop
  split at h
  ·rename_i f ns hfi hcn
   obtain⟨k1,k2⟩:=Bj he hcn;have hfi':first= #[]:=aj.1 hfi
   have hca:caps.map a.eval=(ns.map fun n=>(loc n).v).toArray:=by
    apply aj.1;rw[dy,k1]
   refine same (v:=.func (.func f) #[] (ns.map fun n=>(loc n).v).toArray) h ⟨rfl,k2⟩ fun w' _ =>?_
   simp[execOp,hop,dz,hfi',hca]
  ·exact h.elim
 ·rename_i c hop
  unfold EW at h;split at h
  ·rename_i f hcal
   exfalso;have:kindOf cx o=2\/kindOf cx o=3:=by
    unfold kindOf;simp only[hop,hcal];split
    ·rename_i heq;cases heq
    ·rename_i heq;cases heq
    ·rename_i heq;cases heq
    ·split
     ·exact .inl rfl
     ·exact .inr rfl
    ·split
     ·exact .inl rfl
     ·exact .inr rfl
    ·exact .inr rfl
   omega
  ·rename_i hcal;simp[kindOf,hop,hcal]at hk
  ·rename_i hcal;simp[kindOf,hop,hcal]at hk
  ·rename_i hcal
   split at h
   ·rename_i x y harg
    have h1:c.args= #[x,y]:=aj.1 harg;obtain⟨c',v,k1,k2,k3⟩:=yG (P:=P) (cB he x) (cB he y) h;refine same (v:=v) k1 k2 fun w' _ =>?_
    have k3:=k3 w';simp only[if_true]at k3;simp[execOp,hop,resolve,hcal,h1,invoke,builtin,dT,k3]
   ·exact h.elim
  ·rename_i hcal
   split at h
   ·rename_i x y harg
    have h1:c.args= #[x,y]:=aj.1 harg;obtain⟨c',v,k1,k2,k3⟩:=yG (P:=P) (cB he x) (cB he y) h;refine same (v:=v) k1 k2 fun w' _ =>?_
    have k3:=k3 w';simp only[az,if_false]at k3;simp[execOp,hop,resolve,hcal,h1,invoke,builtin,ec,k3]
   ·exact h.elim
  ·exact read h
 ·exact read h
def Wj{ops:Array Oper}{st:St}{i:Nat}{o:Oper}(ho:ops[i]?=ξ o)(h:yJ cx ops st i=φ):∃t x u y,o.op=.load t x/\o.guard=χ/\fC st.env x=.q9 u y:=by
 unfold yJ at h;rw[ho]at h;simp only at h;split at h
 ·rename_i t x hop hg
  split at h
  ·rename_i u y hev;exact⟨t,x,u,y,hop,hg,hev⟩
  ·cases h
 ·cases h
def Zm{ops:Array Oper}{loud:Nat->Bool}{n:Nat}{listed:Array Bool}{a:Act}{w:World}{A A':aO}(h:gM w A w A')(hw:wpS P ops loud Q n listed a w A'):wpS P ops loud Q n listed a w A:=by
 cases n with
 |zero=>exact hw
 |succ n=>exact⟨hw.1,fun i hi=>wpOp_mono (fun a' w' h'=>⟨h'.1,let⟨A2,k1,k2⟩:=h'.2;⟨A2,h.trans k1,k2⟩⟩) (hw.2 i hi)⟩
def ag8(hok:nU P cx X){O:aO}{st:St}{loc:Nat->Loc}{w:World}{a:Act}(g:Good cx.eT X (aD O st loc w))(hO:gx O w)(he:iP cx.eT (aD O st loc w) st.env a)
  {o:Oper}{K:SV->St->VC}{t:TypeId}{x:Operand}{u:Ty}{y:D u}(hop:o.op=.load t x)(hev:fC st.env x=.q9 u y)(h:(Bh cx st o K).holds) :
  ∃v sv,(K sv st).holds/\eK cx.eT (aD O st loc w) sv v/\∀w' A',gM w (aD O st loc w).A w' A'->(execOp a.eval o).run P w'=.ok (.value v) w':=by
 have hx:=cB he x;rw[hev]at hx;unfold Bh at h;split at h
 ·rename_i hm;have:=yH hm;simp[kindOf,hop]at this
 unfold Gh at h;rw[hop]at h;simp only at h;unfold rN at h;simp only at h;rw[hev]at h;unfold A5 at h;split at h
 ·rename_i ty ht
  obtain⟨m,i,d,hf,hs⟩:=gL hok.toTyOK ht;simp only at h;split at h
  ·rename_i hb
   obtain⟨b,o',us,hvx,hr,hrow⟩:=hx;have hr:=pE hb y hr;obtain⟨v,h1,h2⟩:=jf hf hs hr.length w (fun j v hj=>(hrow j v hj).1);refine⟨v,_,h,qF hr h2,fun w' A' hd =>?_⟩;obtain⟨v',h3,h4⟩:=jf (P:=P) hf hs hr.length w' (fun j v hj=>(hd _ _ _ (hrow j v hj).2 (hrow j v hj).1).1);have e:v'=v:=by
    split at h2
    ·rename_i ho;rw[π ho]at h4;rw[h2]at h4;exact(List.cons.inj h4).1.symm
    ·rename_i ho;rw[ε ho]at h4;rw[h2,h4]
   have:=h3 w' (Below.refl _ _);rw[e]at this;simp[execOp,hop,hvx,this]
  ·exact h.elim
 ·exact h.elim
def M5{ops:Array Oper}(h:yL ops=φ):ee ops=φ/\∀(i j:Nat) (oi oj:Oper),ops[i]?=ξ oi->ops[j]?=ξ oj->j≠i->IS oj i=ψ->IS oi j=ψ->oi.apart ops oj=φ:=by
 simp only[yL,ae,b3,ef]at h;refine⟨h.1,fun i j oi oj hi hj hne h1 h2 =>?_⟩;have:=h.2 i (Array.getElem?_eq_some_iff.1 hi).1 j (Array.getElem?_eq_some_iff.1 hj).1;rw[hi,hj]at this;simp only[cg,h1,h2,az,or_false]at this;rcases this with this|this
 ·exact absurd (ag this) hne
 ·exact this
def Gk{oj:Oper}{i:Nat}(h:∀e∈oj.after,al .any e=φ->e.on≠i):IS oj i=ψ:=by
 cases hd:IS oj i
 ·rfl
 ·obtain⟨e,he,hb⟩:=Array.any_eq_true'.1 hd
  simp only[ae]at hb;exact absurd (ag hb.2) (h e he hb.1)
def Zn{l:List Nat}{f:Nat->VC}(h:(Nq l f).holds):∀i∈l,(f i).holds:=by
 induction l with
 |nil=>simp
 |cons i l ih=>
  cases l with
  |nil=>intro j hj;simp at hj;subst hj;exact h
  |cons j r=>
   intro k hk;rcases ah.1 hk with rfl|hk
   ·exact h.1
   ·exact ih h.2 k hk
def DF(hok:nU P cx X){O:aO}{ops:Array Oper}{W:List Nat}(hW:∀(j:Nat) (oj:Oper) (d:Nat),ops[j]?=ξ oj->oj.dst=ξ d->d∈W)(hreg:yL ops=φ){K:St->VC}
  (hQp:∀c a w,¬Q (.panic c) a w):∀(n:Nat) (listed:Array Bool) {st:St} {loc:Nat->Loc} {w:World} {a:Act},xO ops listed->
  hZ cx (aD O st loc w) st a->Good cx.eT X (aD O st loc w)->gx O w->(pr cx ops (kQ ops.toList) n listed st K).holds->
  (∀st' loc' a' w',(K st').holds->Good cx.eT X (aD O st' loc' w')->Tr (aD O st loc w) (aD O st' loc' w')->hZ cx (aD O st' loc' w') st' a'->qi W st st'->Q .normal a' w')->
  wpS P ops (my cx ops.toList) Q n listed a w (aD O st loc w).A:=by
 intro n;induction n with
 |zero=>
  intro listed st loc w a _ hA g _ h hq;simp only[pr]at h;split at h
  ·rename_i hr;exact⟨hr,hq st loc a w h g (Tr.refl _) hA fun _ _ _ _ h=>h⟩
  ·exact h.elim
 |succ n ih=>
  intro listed st loc w a ik hA g hO h hq;simp only[pr]at h;split at h
  ·rename_i hr
   exact⟨fun _=>hq st loc a w h g (Tr.refl _) hA fun _ _ _ _ h=>h,by rw[hr];simp⟩
  ·rename_i r rs hr
   have one:∀i∈au .any ops listed,(match ops[i]? with|some o=>pI cx ops.toList st o fun st'=>pr cx ops (kQ ops.toList) n (listed.setIfInBounds i φ) st' K|none=>VC.ff).holds->
     wpOp P ops Q i (fun a' w'=>(my cx ops.toList i=ψ->Below w.heap.size w w')/\∃A',gM w (aD O st loc w).A w' A'/\wpS P ops (my cx ops.toList) Q n (listed.setIfInBounds i φ) a' w' A') a w:=by
    intro i hi h;split at h
    ·rename_i o ho
     have hs:=Bk (Q:=Q) (P:=P) hok hA g hO hW (fun d hd=>hW i o d ho hd) h;have hl:my cx ops.toList i=ab (kindOf cx o) 3:=by
      unfold my;rw[Array.getElem?_toList,ho]
     have next:∀a' w',ir cx X O (fun st'=>pr cx ops (kQ ops.toList) n (listed.setIfInBounds i φ) st' K) W st (aD O st loc w) a' w'->∃A',gM w (aD O st loc w).A w' A'/\wpS P ops (my cx ops.toList) Q n (listed.setIfInBounds i φ) a' w' A':=by
      rintro a' w' ⟨st',loc',k1,k2,k3,k4,k5⟩;exact⟨_,k3.cell,ih _ (yI ik hi) k4 k2 (hO.tr k3.size) k1 fun st2 loc2 a2 w2 m1 m2 m3 m4 m5=>hq st2 loc2 a2 w2 m1 m2 (k3.trans m3) m4 (k5.trans m5)⟩
     unfold wpOp;simp only[ho];split
     ·rename_i hw
      rw[π hw]at hs;exact .inl (da (fun a' w' h'=>⟨fun e=>h'.1 (by rw[<-hl];exact e),next a' w' h'.2⟩) hs)
     ·rename_i hw
      rw[ε hw]at hs;exact⟨fun _=>Below.refl _ _,next _ _ hs⟩
    ·exact h.elim
   split at h
   ·rename_i i hf
    have hmem:i∈au .any ops listed:=by rw[hr];exact List.mem_of_find?_eq_some hf
    have hst:=List.find?_some hf;split at h
    ·rename_i o ho
     have hol:ops.toList[i]?=ξ o:=by rw[Array.getElem?_toList];exact ho
     obtain⟨hsel,hap⟩:=M5 hreg;have hfree:∀j oj,ops[j]?=ξ oj->j≠i->listed.getD j φ=ψ->(∀e∈oj.after,al .any e=φ->e.on≠i)->o.apart ops oj=φ:=by
      intro j oj hj hji hun hno;refine hap i j o oj ho hj hji (Gk hno) (Gk fun e he hb heq =>?_);obtain⟨_,o',ho',hall⟩:=mem_ready.1 hmem;rw[ho]at ho';cases ho';have:=hall e he hb;rw[heq]at this;rcases a7 j listed.size with h'|h'
      ·simp[h']at hun this;rw[hun]at this;cases this
      ·simp[Array.getElem?_eq_none h']at this
     have fin:∀{C:EY} (hCr:∀w A,C w A w A) (hCt:∀a A b B c D,C a A b B->C b B c D->C a A c D)
       (hCC:(∀w A w' A',gM w A w' A'->C w A w' A')\/((∀w A w' A',Below w.heap.size w w'->C w A w' A')/\∀j,listed.getD j φ=ψ->j≠i->my cx ops.toList j=φ->tL ops i j))
       {v:Value},ld P ops C o v a w (aD O st loc w).A->ir cx X O (fun st'=>pr cx ops (kQ ops.toList) n (listed.setIfInBounds i φ) st' K) W st (aD O st loc w) (a.put o.dst v) w->wpS P ops (my cx ops.toList) Q (n+1) listed a w (aD O st loc w).A:=by
      intro C hCr hCt hCC v hy ⟨st',loc',k1,k2,k3,k4,k5⟩;refine Zi hCr hCt ho (fun j o' cs b hj=>Region.noSelect_spec hsel j o' cs b hj) (fun c a w h=>(hQp _ _ _ h).elim) n listed a w _ ik hfree hCC hmem hy ?_;exact Zm k3.cell (ih _ (yI ik hmem) k4 k2 (hO.tr k3.size) k1 fun st2 loc2 a2 w2 m1 m2 m3 m4 m5=>hq st2 loc2 a2 w2 m1 m2 (k3.trans m3) m4 (k5.trans m5))
     cases hd:yJ cx ops st i with
     |true=>
      obtain⟨t,x,u,y,hop,hg,hev⟩:=Wj ho hd;have h':(Bh cx st o fun sv st'=>Gj cx st' o.dst sv fun st'=>pr cx ops (kQ ops.toList) n (listed.setIfInBounds i φ) st' K).holds:=by
       unfold pI CW at h;rw[hg]at h;exact h
      obtain⟨v,sv,m1,m2,m3⟩:=ag8 hok g hO hA.env hop hev h';have hw:ar o (yielded ops a.tmps)=φ:=by unfold ar;rw[hg]
      refine fin (C:=gM) gM.refl (fun _ _ _ _ _ _=>gM.trans) (.inl fun _ _ _ _ h=>h) (v:=v) (.inl ⟨hw,fun w' A' hc=>m3 w' A' hc⟩) ?_;exact(qH m1 hA (Tr.refl _) rfl m2 g (fun d hd=>hW i o d ho hd))
     |false=>
      have hkind:kindOf cx o=0\/(kindOf cx o=1/\∀j,j<ops.size->j≠i->listed.getD j φ=ψ->my cx ops.toList j=φ->tL ops i j):=by
       rw[hd,Bool.or_false]at hst;simp only[xP,hol]at hst;split at hst
       ·rename_i hk;exact .inl hk
       ·rename_i hk
        refine .inr ⟨hk,fun j hj hji hun hl =>?_⟩;rw[b3]at hst;have:=hst j (by rw[ef];simpa using hj);simp only[cg,hun,hl,ct,az,or_false]at this;rcases this with this|this
        ·exact absurd (ag this) hji
        ·exact Zg this
       ·cases hst
      let C:EY:=fun w _ w' _=>kindOf cx o=0\/Below w.heap.size w w'
      have hCr:∀w A,C w A w A:=fun w A =>.inr (Below.refl _ _)
      have hCt:∀a A b B c D,C a A b B->C b B c D->C a A c D:=by
       intro a A b B c D h1 h2;rcases h1 with h1|h1
       ·exact .inl h1
       ·rcases h2 with h2|h2
        ·exact .inl h2
        ·exact .inr (h1.trans (h2.mono h1.size))
      have hCC:(∀w A w' A',gM w A w' A'->C w A w' A')\/((∀w A w' A',Below w.heap.size w w'->C w A w' A')/\∀j,listed.getD j φ=ψ->j≠i->my cx ops.toList j=φ->tL ops i j):=by
       rcases hkind with hk|⟨hk,hanc⟩
       ·exact .inl fun _ _ _ _ _ =>.inl hk
       ·refine .inr ⟨fun _ _ _ _ hb =>.inr hb,fun j hun hji hl=>hanc j ?_ hji hun hl⟩
        rcases a7 j ops.size with hh|hh
        ·exact hh
        ·unfold my at hl
         rw[Array.getElem?_toList,Array.getElem?_eq_none hh]at hl;cases hl
      unfold pI at h;obtain⟨st1,hA1,g1,hs1,hag1,hcase⟩:=AG hA g hW h;rcases hcase with⟨hw,h'⟩|⟨hw,h'⟩
      ·obtain⟨v,sv,st2,loc2,m1,m2,m3,m4,m5,m6⟩:=Zl hok g1 hO hA1.env (hkind.imp id (·.1)) h'
       refine fin hCr hCt hCC (v:=v) (.inl ⟨hw,fun w' _ hc=>m6 w' hc⟩) ?_;exact(qH m1 hA1 m4 m2 m5 m3 (fun d hd=>hW i o d ho hd)).mono (by rw[hs1];exact Tr.refl _) hag1
      ·refine fin hCr hCt hCC (v:=undef) (.inr ⟨hw,rfl⟩) ?_
       exact(qH (loc:=loc) (w:=w) h' hA1 (Tr.refl _) rfl (show eK cx.eT _ (.pD []) undef from⟨[],rfl,.nil⟩) g1 (fun d hd=>hW i o d ho hd)).mono (by rw[hs1];exact Tr.refl _) hag1
    ·exact h.elim
   ·have hall:=Zn h
    refine⟨fun e=>(by rw[hr]at e;cases e),fun i hi=>one i hi ?_⟩;exact hall i (by rw[<-hr];exact hi)
end
structure Bl (ops:Array Oper) (m:Nat) (listed:Array Bool):Prop where
 size:listed.size=ops.size
 bits:∀k,m.testBit k=listed.getD k ψ
def Bl.out{ops:Array Oper}{m:Nat}{listed:Array Bool}(h:Bl ops m listed){i:Nat}(hi:i<ops.size):listed.getD i φ=m.testBit i:=by
 rw[h.bits];simp[h.size,hi]
def Bl.set{ops:Array Oper}{m:Nat}{listed:Array Bool}(h:Bl ops m listed){i:Nat}(hi:i<ops.size):Bl ops (m ||| (1<<< i)) (listed.setIfInBounds i φ):=by
 refine⟨by simp[h.size],fun k =>?_⟩;rw[cf,h.bits,c7,cd];by_cases e:i=k
 ·subst e;simp[h.size,hi]
 ·simp[e,Array.getElem?_setIfInBounds]
def ag9(a b m:Nat):(ab ((a ||| b)&&&m) (a ||| b))=(ab (a&&&m) a&&ab (b&&&m) b):=by
 rw[bk,ae,ch,ch,ch];constructor
 ·intro h
  have hb:∀k,(a.testBit k || b.testBit k)=φ->m.testBit k=φ:=fun k hk=>by
   have:=congrArg (fun x=>x.testBit k) h;simp only[cj,cf]at this;rw[hk]at this;simpa using this
  constructor <;> apply eg <;> intro k <;> rw[cj]
  ·cases ha:a.testBit k with
   |false=>rfl
   |true=>rw[hb k (by rw[ha];rfl)];rfl
  ·cases ha:b.testBit k with
   |false=>rfl
   |true=>rw[hb k (by rw[ha];simp)];rfl
 ·rintro⟨h1,h2⟩
  rw[Nat.and_or_distrib_right,h1,h2]
def aiM(k m:Nat):ab ((1<<< k)&&&m) (1<<< k)=m.testBit k:=by
 rw[bk,ch,c7];constructor
 ·intro h
  have:=congrArg (fun x=>x.testBit k) h;simpa[cj,cd]using this
 ·intro h
  apply eg;intro j;rw[cj,cd];by_cases e:k=j
  ·subst e;simp[h]
  ·simp[e]
def Zo(o:Oper)(m:Nat):ab (EZ o&&&m) (EZ o)=o.after.toList.all fun e =>!al .any e || m.testBit e.on:=by
 have key:∀(l:List Edge) (s:Nat),
   ab (l.foldl (fun s e=>match al .any e with|true=>s ||| (1<<< e.on)|false=>s) s&&&m) (l.foldl (fun s e=>match al .any e with|true=>s ||| (1<<< e.on)|false=>s) s)=
    (ab (s&&&m) s&&l.all fun e =>!al .any e || m.testBit e.on):=by
  intro l;induction l with
  |nil=>intro s;simp
  |cons e l ih=>
   intro s;rw[cw,ih,db];cases al .any e with
   |true=>simp only[ag9,aiM,ct,Bool.false_or,Bool.and_assoc]
   |false=>simp
 have:=key o.after.toList 0;simpa[EZ]using this
def JM{m:Nat}{p:Nat->Bool}:∀(l:List Nat) (i:Nat),(∀k am,l[k]?=ξ am->Zj am m (i+k)=p (i+k))->qG l m i=(List.range' i l.length).filter p
 |[],_,_=>rfl
 |am :: r,i,h=>by
  have h0:Zj am m i=p i:=by simpa using h 0 am rfl
  have ih:=JM (m:=m) (p:=p) r (i+1) fun k am' hk=>by
   have:=h (k+1) am' (by simpa using hk)
   rwa [show i+(k+1)=i+1+k by omega]at this
  have e:qG (am :: r) m i=match Zj am m i with|true=>i :: qG r m (i+1)|false=>qG r m (i+1):=by rw[qG]
  rw[eh,ei,cr,<-ih,e,h0];cases p i <;> rfl
def N7{m i:Nat}{p:Nat->Bool}:∀(ls:List Bool) (akH:List Nat) (j:Nat),ls.length=akH.length->
  (∀k l a,ls[k]?=ξ l->akH[k]?=ξ a->(!(l&&(!(ab (j+k) i)&&(!(m.testBit (j+k))&&!(a.testBit i)))))=p (j+k))->yK m i ls akH j=(List.range' j ls.length).all p
 |[],[],_,_,_=>rfl
 |[],_ :: _,_,h,_=>by simp at h
 |_ :: _,[],_,h,_=>by simp at h
 |l :: ls,a :: akH,j,hl,h=>by
  have h0:=h 0 l a rfl rfl;rw[cz]at h0;have ih:=N7 (m:=m) (i:=i) (p:=p) ls akH (j+1) (by simpa using hl) fun k l' a' hk ha=>by
   have:=h (k+1) l' a' (by simpa using hk) (by simpa using ha)
   rwa [show j+(k+1)=j+1+k by omega]at this
  have e:yK m i (l :: ls) (a :: akH) j=match l&&(!(ab j i)&&(!(m.testBit j)&&!(a.testBit i)))with|true=>ψ|false=>yK m i ls akH (j+1):=by rw[yK]
  rw[eh,ei,db,<-ih,<-h0,e];cases(l&&(!(ab j i)&&(!(m.testBit j)&&!(a.testBit i)))) <;> rfl
def DG:∀(r:List Oper) (ms:List Nat),(sG r ms).length=ms.length+r.length
 |[],ms=>by simp[sG]
 |o :: r,ms=>by rw[sG,DG r];simp;omega
def Zp(l:List Oper):(kQ l).length=l.length:=by unfold kQ;rw[DG];simp
def N8{ops:Array Oper}{m:Nat}{listed:Array Bool}(h:Bl ops m listed):qG (ops.toList.map EZ) m 0=au .any ops listed:=by
 unfold au;rw[JM (p:=fun i =>!listed.getD i φ&&((ops[i]?).map (·.after.all fun e =>!al .any e || listed.getD e.on ψ)).getD ψ),ca,ej]
 ·rfl
 ·intro k am hk
  rw[aw];rw[List.getElem?_map,Array.getElem?_toList]at hk;cases ho:ops[k]? with
  |none=>rw[ho]at hk;cases hk
  |some o=>
   rw[ho]at hk;simp only[bp,ek]at hk;have hlt:k<ops.size:=(Array.getElem?_eq_some_iff.1 ho).1;unfold Zj;rw[<-hk,Zo,h.out hlt];simp only[bp,bq];congr 1;rw[<-Array.all_toList];congr 1
   funext e
   rw[h.bits]
def Zq{cx:Cx}{ops:Array Oper}{m:Nat}{listed:Array Bool}(h:Bl ops m listed)(i:Nat) :
  CX (ops.toList.map (kindOf cx)) (ops.toList.map fun o=>ab (kindOf cx o) 3) (kQ ops.toList) m i=xP cx ops.toList (kQ ops.toList) listed i:=by
 unfold CX xP;rw[List.getD_eq_getElem?_getD,List.getElem?_map];cases ho:ops.toList[i]? with
 |none=>rfl
 |some o=>
  simp only[bp,bq];have hfree:yK m i (ops.toList.map fun o=>ab (kindOf cx o) 3) (kQ ops.toList) 0=(bz ops.toList.length).all fun j=>ab j i || listed.getD j φ || !(my cx ops.toList j) || ((kQ ops.toList).getD j 0).testBit i:=by
   rw[N7 (p:=fun j=>ab j i || listed.getD j φ || !(my cx ops.toList j) || ((kQ ops.toList).getD j 0).testBit i),ca,ej]
   ·rw[ca,Zp]
   ·intro k l a hk ha
    rw[aw];rw[List.getElem?_map]at hk;cases hoo:ops.toList[k]? with
    |none=>rw[hoo]at hk;cases hk
    |some o'=>
     rw[hoo]at hk;simp only[bp,ek]at hk;have hlt:k<ops.size:=by rw[Array.getElem?_toList]at hoo;exact(Array.getElem?_eq_some_iff.1 hoo).1
     have hm:(kQ ops.toList).getD k 0=a:=by rw[List.getD_eq_getElem?_getD,ha];rfl
     have hl:my cx ops.toList k=l:=by unfold my;rw[hoo];exact hk
     rw[hm,hl,h.out hlt];cases l <;> cases ab k i <;> cases m.testBit k <;> cases a.testBit i <;> rfl
  split
  ·rfl
  ·exact hfree
  ·rfl
def aha{cx:Cx}{ops:Array Oper}{K:St->VC}:∀(n m:Nat) (listed:Array Bool) (st:St),Bl ops m listed->
  anyM cx ops (ops.toList.map EZ) (ops.toList.map (kindOf cx)) (ops.toList.map fun o=>ab (kindOf cx o) 3) (kQ ops.toList) n m st K=pr cx ops (kQ ops.toList) n listed st K:=by
 intro n;induction n with
 |zero=>intro m listed st h;unfold anyM pr;rw[N8 h]
 |succ n ih=>
  intro m listed st h;unfold anyM pr;rw[N8 h];have hst:(fun i=>CX (ops.toList.map (kindOf cx)) (ops.toList.map fun o=>ab (kindOf cx o) 3) (kQ ops.toList) m i || yJ cx ops st i)=fun i=>xP cx ops.toList (kQ ops.toList) listed i || yJ cx ops st i:=funext fun i=>by rw[Zq h]
  rw[hst];have hone:∀i,(match ops[i]? with
    |some o=>pI cx ops.toList st o fun st'=>anyM cx ops (ops.toList.map EZ) (ops.toList.map (kindOf cx)) (ops.toList.map fun o=>ab (kindOf cx o) 3) (kQ ops.toList) n (m ||| (1<<< i)) st' K
    |none=>VC.ff)=(match ops[i]? with
    |some o=>pI cx ops.toList st o fun st'=>pr cx ops (kQ ops.toList) n (listed.setIfInBounds i φ) st' K
    |none=>VC.ff):=by
   intro i;cases ho:ops[i]? with
   |none=>rfl
   |some o=>
    have hlt:i<ops.size:=(Array.getElem?_eq_some_iff.1 ho).1;simp only;congr 1
    funext st'
    exact ih _ _ st' (h.set hlt)
  split
  ·rfl
  ·split
   ·rename_i i hf
    exact hone i
   ·congr 1
    funext i
    exact hone i
def Uh{cx:Cx}{ops:Array Oper}{st:St}{K:St->VC}:aiL cx ops st K=pr cx ops (kQ ops.toList) ops.size (en ops.size ψ) st K:=
 aha _ _ _ _ ⟨ς,fun k=>by simp[Array.getElem?_replicate];split <;> rfl⟩
def rT(r:Nat->Nat):C->C
 |.app t xs n =>.app t xs (r n)
 |.bD n =>.bD (r n)
 |.rE n t lo len =>.rE (r n) t lo len
 |.q8 n =>.q8 (r n)
 |.fS n =>.fS (r n)
 |.xd n p =>.xd (r n) p
 |.ref n o =>.ref (r n) o
 |.vh n =>.vh (r n)
 |.ox n t i o =>.ox (r n) t i o
 |.fn f caps =>.fn f (caps.map r)
 |c=>c
def yM(r:Nat->Nat):List C->List C
 |[]=>[]
 |c :: cs=>rT r c :: yM r cs
def xQ(r:Nat->Nat):dI->dI
 |.one c =>.one (rT r c)
 |.agg cs =>.agg (yM r cs)
def xR(r:Nat->Nat):List dI->List dI
 |[]=>[]
 |c :: cs=>xQ r c :: xR r cs
def CY(r:Nat->Nat):SV->SV
 |.s x =>.s (xQ r x)
 |.pD xs =>.pD (xR r xs)
def l8(r:Nat->Nat):OC->OC
 |.cells T cs =>.cells T (yM r cs)
 |.iter cs seen cl =>.iter (yM r cs) seen cl
 |oc=>oc
def xS(r:Nat->Nat):List (Nat×SV)->List (Nat×SV)
 |[]=>[]
 |(t,v) :: l=>(t,CY r v) :: xS r l
def sH(r:Nat->Nat):List (Nat×OC)->List (Nat×OC)
 |[]=>[]
 |(n,oc) :: l=>(r n,l8 r oc) :: sH r l
def mX(r:Nat->Nat)(st:St):St:={env:=xS r st.env,aK:=sH r st.aK,next:=st.next}
structure ph (base next:Nat) (r q:Nat->Nat):Prop where
 low:∀n,n<base->r n=n
 lt:∀n,n<next->r n<next
 back:∀n,n<next->q (r n)=n
 qlt:∀n,n<next->q n<next
 Wk:∀n,n<next->r (q n)=n
section
variable{X:Ext}{cx:Cx}{base next:Nat}{r q:Nat->Nat}
def ph.adP(h:ph base next r q)(hb:base<=next){n:Nat}(hn:n<base):q n=n:=by
 have:=h.back n ω;rw[h.low n hn]at this;exact this
def DH(l:List (Nat×SV))(t:Nat):look (xS r l) t=(look l t).map (CY r):=by
 induction l with
 |nil=>rfl
 |cons p l ih=>
  obtain⟨m,v⟩:=p;simp only[xS,cX];split
  ·rfl
  ·exact ih
def N9(h:ph base next r q):∀{l:List (Nat×OC)},(∀p∈l,p.1<next)->∀m,m<next->look (sH r l) m=(look l (q m)).map (l8 r):=by
 intro l;induction l with
 |nil=>intro _ m _;rfl
 |cons p l ih=>
  obtain⟨n,oc⟩:=p;intro hk m hm;have hn:n<next:=hk (n,oc) ς
  simp only[sH,cX];by_cases e:r n=m
  ·rw[π e,π (by rw[<-e,h.back n hn])];rfl
  ·rw[ε e,ε (fun e2=>e (by rw[e2,h.Wk m hm]))]
   exact ih (fun p hp=>hk p (by simp[hp])) m hm
def E0(h:ph base next r q):∀{l:List (Nat×OC)},(∀p∈l,p.1<next)->∀m,¬m<next->look (sH r l) m=χ:=by
 intro l;induction l with
 |nil=>intro _ m _;rfl
 |cons p l ih=>
  obtain⟨n,oc⟩:=p;intro hk m hm;simp only[sH,cX];rw[ε (fun e=>hm (by rw[<-e];exact h.lt n (hk (n,oc) ς)))];exact ih (fun p hp=>hk p (by simp[hp])) m hm
def E1{α:Type}{l:List (Nat×α)}{p:Nat×α}(hp:p∈l):∃x,look l p.1=ξ x:=by
 induction l with
 |nil=>cases hp
 |cons p' l ih=>
  obtain⟨m,y⟩:=p';rw[cX];by_cases e:m=p.1
  ·exact⟨y,by rw[π e]⟩
  ·rw[ε e]
   rcases ah.1 hp with rfl|hp
   ·exact absurd rfl e
   ·exact ih hp
def Oa(oc:OC):(l8 r oc).lo=oc.lo:=by cases oc <;> rfl
section
variable{O:aO}{st:St}{loc:Nat->Loc}{w:World}
def rU(h:ph base st.next r q)(g:Good cx.eT X (aD O st loc w)){m:Nat}{oc':OC}:(aD O (mX r st) (fun m=>loc (q m)) w).ob m=ξ oc'↔m<st.next/\∃oc,look st.aK (q m)=ξ oc/\oc'=l8 r oc:=by
 have hk:∀p∈st.aK,p.1<st.next:=fun p hp=>by
  obtain⟨x,hx⟩:=E1 hp;exact(g.obj p.1 x hx).1
 show look (sH r st.aK) m=ξ oc'↔_;by_cases hm:m<st.next
 ·rw[N9 h hk m hm]
  cases look st.aK (q m)with
  |none=>simp
  |some oc=>simp[hm,eq_comm]
 ·rw[E0 h hk m hm];simp[hm]
def Wl(h:ph base st.next r q)(g:Good cx.eT X (aD O st loc w)):(aD O (mX r st) (fun m=>loc (q m)) w).A=(aD O st loc w).A:=by
 funext b off
 apply propext;constructor
 ·rintro(k|⟨m,oc',k1,k2,k3⟩)
  ·exact .inl k
  ·obtain⟨hm,oc,h1,rfl⟩:=(rU h g).1 k1
   exact .inr ⟨q m,oc,h1,k2,by rwa [Oa]at k3⟩
 ·rintro(k|⟨n,oc,k1,k2,k3⟩)
  ·exact .inl k
  ·have hn:=(g.obj n oc k1).1
   refine .inr ⟨r n,l8 r oc,(rU h g).2 ⟨h.lt n hn,oc,by rw[h.back n hn];exact k1,rfl⟩,?_,by rw[Oa];exact k3⟩;show b∈(loc (q (r n))).bs;rw[h.back n hn];exact k2
def Oc(h:ph base st.next r q)(g:Good cx.eT X (aD O st loc w)){b:Nat}(hb:(aD O (mX r st) (fun m=>loc (q m)) w).owns b):(aD O st loc w).owns b:=by
 obtain⟨m,oc',k1,k2⟩:=hb;obtain⟨hm,oc,h1,rfl⟩:=(rU h g).1 k1;exact⟨q m,oc,h1,k2⟩
def Zr(h:ph base st.next r q)(g:Good cx.eT X (aD O st loc w)){c:C}{v:Value}(hc:CR cx.eT (aD O st loc w) c v):CR cx.eT (aD O (mX r st) (fun m=>loc (q m)) w) (rT r c) v:=by
 have hA:=Wl (r:=r) (q:=q) h g;have obn:∀{n:Nat} {oc:OC},n<st.next->(aD O (mX r st) (fun m=>loc (q m)) w).ob (r n)=ξ oc->∃oc0,look st.aK n=ξ oc0/\oc=l8 r oc0:=by
  intro n oc hn ho;obtain⟨_,oc0,h1,h2⟩:=(rU h g).1 ho;rw[h.back n hn]at h1;exact⟨oc0,h1,h2⟩
 cases c with
 |lit b=>exact hc
 |d t x=>show VR cx.eT t x _ w v;rw[hA];exact hc
 |app t xs n=>
  obtain⟨h1,h2,h3⟩:=hc;refine⟨by rw[hA];exact h1,h.lt n h2,fun ys hy =>?_⟩;obtain⟨oc0,k1,k2⟩:=obn h2 hy;cases oc0 <;> simp[l8]at k2;obtain⟨rfl,rfl⟩:=k2;obtain⟨m1,m2⟩:=h3 _ k1;exact⟨m1,fun e=>by show v=(loc (q (r n))).v;rw[h.back n h2];exact m2 e⟩
 |l6=>exact hc
 |jx=>exact hc
 |emp=>exact hc
 |bD n=>
  refine⟨h.lt n hc.1,fun t xs e =>?_⟩;obtain⟨oc0,k1,k2⟩:=obn hc.1 e;cases oc0 <;> simp[l8]at k2;obtain⟨rfl,rfl⟩:=k2;show v=(loc (q (r n))).v;rw[h.back n hc.1];exact hc.2 _ _ k1
 |rE n t lo len=>
  refine⟨h.lt n hc.1,fun xs e =>?_⟩;obtain⟨oc0,k1,k2⟩:=obn hc.1 e;cases oc0 <;> simp[l8]at k2;obtain⟨rfl,k3⟩:=k2;rcases hc.2 _ k1 with h5|⟨b,c,h5,h6⟩
  ·exact .inl h5
  ·exact .inr ⟨b,c,by show(loc (q (r n))).bs=[b];rw[h.back n hc.1];exact h5,h6⟩
 |q8 n=>
  refine⟨h.lt n hc.1,fun t xs e =>?_⟩;obtain⟨oc0,k1,k2⟩:=obn hc.1 e;cases oc0 <;> simp[l8]at k2;obtain⟨rfl,rfl⟩:=k2;show v=(loc (q (r n))).v;rw[h.back n hc.1];exact hc.2 _ _ k1
 |fS n=>
  refine⟨h.lt n hc.1,fun oc e hx =>?_⟩;obtain⟨oc0,k1,k2⟩:=obn hc.1 e;have hx':oc0.isX=φ:=by subst k2;cases oc0 <;> first|rfl|cases hx
  show v=(loc (q (r n))).v;rw[h.back n hc.1];exact hc.2 _ k1 hx'
 |xd n p=>
  refine⟨h.lt n hc.1,fun t x e =>?_⟩;obtain⟨oc0,k1,k2⟩:=obn hc.1 e;cases oc0 <;> simp[l8]at k2;obtain⟨rfl,rfl,k2⟩:=k2;show YZ p (loc (q (r n))).v v;rw[h.back n hc.1];exact hc.2 _ _ k1
 |ref n off=>
  refine⟨h.lt n hc.1,fun T cs e =>?_⟩;obtain⟨oc0,k1,k2⟩:=obn hc.1 e;cases oc0 <;> simp[l8]at k2;show ∃b,(loc (q (r n))).v=_/\_
  rw[h.back n hc.1];exact hc.2 _ _ k1
 |vh n=>
  refine⟨h.lt n hc.1,?_⟩;rcases hc.2 with hn|hn
  ·exact .inl hn
  ·refine .inr fun T cs e =>?_
   obtain⟨oc0,k1,k2⟩:=obn hc.1 e;cases oc0 <;> simp[l8]at k2;show v=(loc (q (r n))).v;rw[h.back n hc.1];exact hn _ _ k1
 |ox n t i off=>
  refine⟨h.lt n hc.1,fun⟨xs,e⟩ =>?_⟩;show ∃b,(loc (q (r n))).bs=_/\_
  rw[h.back n hc.1];rcases e with e|e
  ·obtain⟨oc0,k1,k2⟩:=obn hc.1 e
   cases oc0 <;> simp[l8]at k2;obtain⟨rfl,rfl⟩:=k2;exact hc.2 ⟨_,.inl k1⟩
  ·obtain⟨oc0,k1,k2⟩:=obn hc.1 e
   cases oc0 <;> simp[l8]at k2;obtain⟨rfl,rfl⟩:=k2;exact hc.2 ⟨_,.inr k1⟩
 |q9 t x=>
  obtain⟨b,o,us,rfl,h1,h2⟩:=hc;exact⟨b,o,us,rfl,by rw[hA];exact h1,by rw[hA];exact h2⟩
 |fn f caps=>
  obtain⟨rfl,h2⟩:=hc;refine⟨?_,fun m hm =>?_⟩
  ·congr 2
   rw[List.map_map];exact dc fun n hn=>by show _=(loc (q (r n))).v;rw[h.back n (h2 n hn).1];rfl
  ·obtain⟨n,hn,rfl⟩:=List.mem_map.1 hm
   refine⟨h.lt n (h2 n hn).1,fun t ys e =>?_⟩;obtain⟨oc0,k1,k2⟩:=obn (h2 n hn).1 e;cases oc0 <;> simp[l8]at k2;obtain⟨rfl,rfl⟩:=k2;exact(h2 n hn).2 _ _ k1
 |any=>trivial
def CZ(h:ph base st.next r q)(g:Good cx.eT X (aD O st loc w)):∀{cs:List C} {vs:List Value},fH cx.eT (aD O st loc w) cs vs->fH cx.eT (aD O (mX r st) (fun m=>loc (q m)) w) (yM r cs) vs
 |_,_,.nil =>.nil
 |_,_,.cons h1 h2 h3 =>.cons (Zr h g h1) h2 (CZ h g h3)
def Od(h:ph base st.next r q)(g:Good cx.eT X (aD O st loc w)){x:dI}{v:Value}(hx:jR cx.eT (aD O st loc w) x v):jR cx.eT (aD O (mX r st) (fun m=>loc (q m)) w) (xQ r x) v:=by
 cases x with
 |one c=>exact Zr h g hx
 |agg cs=>obtain⟨vs,rfl,hv⟩:=hx;exact⟨vs,rfl,CZ h g hv⟩
def JN(h:ph base st.next r q)(g:Good cx.eT X (aD O st loc w)):∀{cs:List dI} {vs:List Value},dK cx.eT (aD O st loc w) cs vs->dK cx.eT (aD O (mX r st) (fun m=>loc (q m)) w) (xR r cs) vs
 |_,_,.nil =>.nil
 |_,_,.cons h1 h3 =>.cons (Od h g h1) (JN h g h3)
def ahb(h:ph base st.next r q)(g:Good cx.eT X (aD O st loc w)){x:SV}{v:Value}(hx:eK cx.eT (aD O st loc w) x v):eK cx.eT (aD O (mX r st) (fun m=>loc (q m)) w) (CY r x) v:=by
 cases x with
 |s x=>exact Od h g hx
 |pD xs=>obtain⟨vs,rfl,hv⟩:=hx;exact⟨vs,rfl,JN h g hv⟩
def Bm(h:ph base st.next r q)(g:Good cx.eT X (aD O st loc w)){t:Ty}{xs:List (D t)}{vs:Array Value}(he:mV cx.eT (aD O st loc w) t xs vs):mV cx.eT (aD O (mX r st) (fun m=>loc (q m)) w) t xs vs:=by
 intro i y hy;obtain⟨us,h1,h2⟩:=he i y hy;exact⟨us,by rw[Wl h g];exact h1,h2⟩
def aiN(h:ph base st.next r q)(g:Good cx.eT X (aD O st loc w)){l:Loc}{oc:OC}(ho:OR cx.eT X (aD O st loc w) l oc):OR cx.eT X (aD O (mX r st) (fun m=>loc (q m)) w) l (l8 r oc):=by
 cases oc with
 |cells T cs=>obtain⟨b,vs,h1,h2,h3,h4⟩:=ho;exact⟨b,vs,h1,h2,h3,CZ h g h4⟩
 |bD t xs=>
  rcases ho with ho|⟨b,vs,T,cap,h1,h2,h3,h4,h5,h6,h7⟩
  ·exact .inl ho
  ·exact .inr ⟨b,vs,T,cap,h1,h2,h3,h4,h5,h6,Bm h g h7⟩
 |arr t xs=>obtain⟨b,vs,T,h1,h2,h3,h4,h5⟩:=ho;exact⟨b,vs,T,h1,h2,h3,h4,Bm h g h5⟩
 |tok t xs=>
  rcases ho with ho|⟨b,vs,T,cap,h1,h2,h3,h4,h5,h6,h7⟩
  ·exact .inl ho
  ·exact .inr ⟨b,vs,T,cap,h1,h2,h3,h4,h5,h6,Bm h g h7⟩
 |ext k t x=>exact ho
 |iter cs seen cl=>obtain⟨b,m,c,sn,h1,h2,h3,h4,h5,h6⟩:=ho;exact⟨b,m,c,sn,h1,h2,h3,CZ h g h4,h5,h6⟩
def adQ(h:ph base st.next r q)(g:Good cx.eT X (aD O st loc w)):Good cx.eT X (aD O (mX r st) (fun m=>loc (q m)) w):=by
 refine⟨fun n oc' ho =>?_,fun n m oc oc' b h1 h2 h3 h4 =>?_,fun n oc' b off ho hb =>?_,g.nw.sub rfl fun b hb=>Oc h g hb⟩
 ·obtain⟨hn,oc,k1,rfl⟩:=(rU h g).1 ho
  exact⟨hn,aiN h g (g.obj _ _ k1).2⟩
 ·obtain⟨hn,oc1,k1,rfl⟩:=(rU h g).1 h1
  obtain⟨hm,oc2,k2,rfl⟩:=(rU h g).1 h2;have:=g.apart (q n) (q m) oc1 oc2 b k1 k2 h3 h4;rw[<-h.Wk n hn,<-h.Wk m hm,this]
 ·obtain⟨hn,oc,k1,rfl⟩:=(rU h g).1 ho
  exact g.out (q n) oc b off k1 hb
def adR{l l':Loc}{a b:OC}(h:bL l l' a b):bL l l' a (l8 r b):=by
 cases a <;> cases b <;> first|exact h|exact h.elim
def aiO(h:ph base st.next r q)(g:Good cx.eT X (aD O st loc w)){S:bT}(hS:S.next=base)(hb:base<=st.next)(t:Tr S (aD O st loc w)):Tr S (aD O (mX r st) (fun m=>loc (q m)) w) where
 O:=t.O
 next:=t.next
 os:=t.os
 output:=t.output
 size:=t.size
 own b hb':=t.own b (Oc h g hb')
 cell b o v ha hc:=by
  obtain⟨h1,h2⟩:=t.cell b o v ha hc;exact⟨h1,by rw[Wl h g];exact h2⟩
 block:=t.block
 loc n hn hf:=by
  show(loc (q n)).v=_/\(_->loc (q n)=_);rw[h.adP hb ω];exact t.loc n hn hf
 kind n oc' hn ho:=by
  obtain⟨_,oc1,k1,rfl⟩:=(rU h g).1 ho;rw[h.adP hb ω]at k1;obtain⟨oc,k2,k3⟩:=t.kind n oc1 hn k1;refine⟨oc,k2,?_⟩;show bL (S.loc n) (loc (q n)) oc (l8 r oc1);rw[h.adP hb ω];exact adR k3
def Oe{S:bT}(hS:S.next=base)(hl:∀n,n<base->r n=n){c:C}{v:Value}(hc:CR cx.eT S c v):rT r c=c:=by
 subst hS;cases c with
 |app t xs n=>simp only[rT];rw[hl n hc.2.1]
 |bD n=>simp only[rT];rw[hl n hc.1]
 |rE n t lo len=>simp only[rT];rw[hl n hc.1]
 |q8 n=>simp only[rT];rw[hl n hc.1]
 |fS n=>simp only[rT];rw[hl n hc.1]
 |xd n p=>simp only[rT];rw[hl n hc.1]
 |ref n off=>simp only[rT];rw[hl n hc.1]
 |vh n=>simp only[rT];rw[hl n hc.1]
 |ox n t i off=>simp only[rT];rw[hl n hc.1]
 |fn f caps=>
  simp only[rT];congr 1;have:caps.map r=caps.map id:=dc fun n hn=>hl n (hc.2 n hn).1
  simpa using this
 |_=>rfl
def JO{S:bT}(hS:S.next=base)(hl:∀n,n<base->r n=n):∀{cs:List C} {vs:List Value},fH cx.eT S cs vs->yM r cs=cs
 |_,_,.nil=>rfl
 |_,_,.cons h1 _ h3=>by simp only[yM];rw[Oe hS hl h1,JO hS hl h3]
def Gl{S:bT}(hS:S.next=base)(hl:∀n,n<base->r n=n){x:dI}{v:Value}(hc:jR cx.eT S x v):xQ r x=x:=by
 cases x with
 |one c=>simp only[xQ];rw[Oe hS hl hc]
 |agg cs=>obtain⟨vs,_,hv⟩:=hc;simp only[xQ];rw[JO hS hl hv]
def DI{S:bT}(hS:S.next=base)(hl:∀n,n<base->r n=n):∀{cs:List dI} {vs:List Value},dK cx.eT S cs vs->xR r cs=cs
 |_,_,.nil=>rfl
 |_,_,.cons h1 h3=>by simp only[xR];rw[Gl hS hl h1,DI hS hl h3]
def Zs{S:bT}(hS:S.next=base)(hl:∀n,n<base->r n=n){x:SV}{v:Value}(hc:eK cx.eT S x v):CY r x=x:=by
 cases x with
 |s x=>simp only[CY];rw[Gl hS hl hc]
 |pD xs=>obtain⟨vs,_,hv⟩:=hc;simp only[CY];rw[DI hS hl hv]
end
def ir.ren{O:aO}{K:St->VC}{W:List Nat}{st:St}{loc:Nat->Loc}{w:World}{a a':Act}{w':World}{f:St->St}(hA:hZ cx (aD O st loc w) st a)
  (hf:∀st',f st'=st'\/∃r q,ph st.next st'.next r q/\f st'=mX r st')(h:ir cx X O (fun st'=>K (f st')) W st (aD O st loc w) a' w'):ir cx X O K W st (aD O st loc w) a' w':=by
 obtain⟨st',loc',k1,k2,k3,k4,k5⟩:=h;rcases hf st' with e|⟨r,q,ht,e⟩
 ·exact⟨st',loc',by rw[<-e];exact k1,k2,k3,k4,k5⟩
 ·refine⟨mX r st',fun m=>loc' (q m),by rw[<-e];exact k1,adQ ht k2,aiO ht k2 rfl k3.next k3,⟨k4.size,k4.defers,?_⟩,?_⟩
  ·intro t sv hl
   have hl:look (xS r st'.env) t=ξ sv:=hl;rw[DH]at hl;obtain⟨sv0,h0,rfl⟩:=eo.1 hl;exact ahb ht k2 (k4.env t sv0 h0)
  ·intro hm t htW sv hl
   have hl:look (xS r st'.env) t=ξ sv:=hl;rw[DH]at hl;obtain⟨sv0,h0,rfl⟩:=eo.1 hl;have h1:=k5 hm t htW sv0 h0;rw[Zs (cx:=cx) (S:=aD O st loc w) rfl ht.low (hA.env t sv0 h1)];exact h1
end
def Ui:C->List Nat
 |.app _ _ n|.bD n|.q8 n|.fS n|.xd n _|.ref n _|.vh n|.ox n _ _ _|.rE n _ _ _=>[n]
 |.fn _ caps=>caps
 |_=>[]
def IT:List C->List Nat
 |[]=>[]
 |c :: cs=>Ui c++IT cs
def aiP(aK:List (Nat×OC)):C->List Nat
 |.ref n _=>n :: (match look aK n with
  |some (.cells _ cs)=>IT cs
  |_=>[])
 |c=>Ui c
def ahc(aK:List (Nat×OC)):SV->List Nat
 |.s (.one c)=>aiP aK c
 |.s (.agg cs)=>IT cs
 |.pD _=>[]
def Uj(st:St):List Nat->List Nat
 |[]=>[]
 |d :: ds=>(match look st.env d with
  |some sv=>ahc st.aK sv
  |none=>[])++Uj st ds
def agy(n:Nat):List Nat->Bool
 |[]=>ψ
 |m :: l=>match ab m n with
  |true=>φ
  |false=>agy n l
def Nr(base next:Nat):List Nat->List Nat->List Nat
 |acc,[]=>acc
 |acc,n :: l=>match ao n base || !(ao n next) || agy n acc with
  |true=>Nr base next acc l
  |false=>Nr base next (acc++[n]) l
def aiQ(base:Nat):Nat->List Nat
 |0=>[]
 |k+1=>aiQ base k++[base+k]
def aiR(n:Nat):List Nat->Nat->Nat
 |[],_=>n
 |m :: l,i=>match ab m n with
  |true=>i
  |false=>aiR n l (i+1)
def atB:List Nat->Nat->Nat->Nat
 |[],_,d=>d
 |m :: _,0,_=>m
 |_ :: l,i+1,d=>atB l i d
def wv(base:Nat)(l:List Nat)(n:Nat):Nat:=match ao n base with
 |true=>n
 |false=>aiR n l base
def yN(base:Nat)(l:List Nat)(n:Nat):Nat:=match ao n base with
 |true=>n
 |false=>atB l (n-base) n
def Ns(base:Nat)(l:List Nat):Nat->Nat->Bool
 |_,0=>φ
 |next,k+1=>ao (wv base l k) next&&ab (yN base l (wv base l k)) k&&ao (yN base l k) next&&ab (wv base l (yN base l k)) k&&Ns base l next k
def canon(base:Nat)(ds:List Nat)(st:St):St:=
 match ao (base+1) st.next with
 |false=>st
 |true=>
  let l:=Nr base st.next (Nr base st.next [] (Uj st ds)) (aiQ base (st.next-base))
  match Ns base l st.next st.next with
  |true=>mX (wv base l) st
  |false=>st
def wx{base:Nat}{l:List Nat}{next:Nat}:∀k,Ns base l next k=φ->∀n,n<k->wv base l n<next/\yN base l (wv base l n)=n/\yN base l n<next/\wv base l (yN base l n)=n:=by
 intro k;induction k with
 |zero=>intro _ n hn;omega
 |succ k ih=>
  intro h n hn;simp only[Ns,ae]at h;obtain⟨⟨⟨⟨h1,h2⟩,h3⟩,h4⟩,h5⟩:=h;rcases a7 n k with hk|hk
  ·exact ih h5 n hk
  ·obtain rfl:n=k:=by omega
   exact⟨oS h1,ag h2,oS h3,ag h4⟩
def Gm(base:Nat)(ds:List Nat)(st:St):canon base ds st=st\/∃r q,ph base st.next r q/\canon base ds st=mX r st:=by
 unfold canon;split
 ·exact .inl rfl
 ·simp only
  split
  ·rename_i h
   refine .inr ⟨_,yN base _,⟨fun n hn =>?_,fun n hn=>(wx _ h n hn).1,fun n hn=>(wx _ h n hn).2.1,fun n hn=>(wx _ h n hn).2.2.1,fun n hn=>(wx _ h n hn).2.2.2⟩,rfl⟩;unfold wv;have:ao n base=φ:=Nat.ble_eq_true_of_le hn;rw[this]
  ·exact .inl rfl
def VR.IU{eT:TypeId}{t:Ty}{x:D t}{A A':aO}{w:World}{v:Value}(h:VR eT t x A w v)(hA:∀b o,¬A b o->¬A' b o):VR eT t x A' w v:=
 VR.frame h fun b o _ ha hc=>⟨hc,hA b o ha⟩
inductive Cl where
 |d (t:Ty)
 |obj (k:Nat)
 |jx
inductive Ob where
 |box (T:TypeId) (cs:List Cl)
 |row (keep:Bool) (t:Ty)
 |tok (t:Ty)
 |ext (k:Nat) (t:Ty)
@[reducible] def CD:List Cl->Type
 |[]=>Unit
 |.d t :: r=>D t×CD r
 |.obj _ :: r=>CD r
 |.jx :: r=>CD r
@[reducible] def OD:Ob->Type
 |.box _ cs=>CD cs
 |.row _ t=>List (D t)
 |.tok t=>List (D t)
 |.ext _ t=>D t
@[reducible] def PD:List Ob->Type
 |[]=>Unit
 |o :: r=>OD o×PD r
def nL:Ob->Ob->Bool
 |.box T _,.box T' _=>ab T T'
 |.ext k t,.ext k' t'=>ab k k'&&Ty.beq t t'
 |.row φ t,.row φ t'=>Ty.beq t t'
 |_,_=>ψ
def aiS:(o:Ob)->OD o->Nat->C
 |.box _ _,_,n =>.ref n 0
 |.row _ _,_,n =>.bD n
 |.tok t,x,n =>.app t x n
 |.ext 0 _,_,n =>.xd n .top
 |.ext (_+1) _,_,n =>.fS n
def jL:(aY:List Ob)->PD aY->List Nat->Nat->C
 |o :: _,x,n :: _,0=>aiS o x.1 n
 |_ :: r,x,_ :: ns,k+1=>jL r x.2 ns k
 |_,_,_,_ =>.any
def Of(f:Nat->C):(cs:List Cl)->CD cs->List C
 |[],_=>[]
 |.d t :: r,x =>.d t x.1 :: Of f r x.2
 |.obj k :: r,x=>f k :: Of f r x
 |.jx :: r,x =>.jx :: Of f r x
def Bn(f:Nat->C):(cs:List Cl)->CD cs->List dI
 |[],_=>[]
 |.d t :: r,x =>.one (.d t x.1) :: Bn f r x.2
 |.obj k :: r,x =>.one (f k) :: Bn f r x
 |.jx :: r,x =>.one .jx :: Bn f r x
def um(f:Nat->C):(o:Ob)->OD o->OC
 |.box T cs,x =>.cells T (Of f cs x)
 |.row _ t,x =>.bD t x
 |.tok t,x =>.tok t x
 |.ext k t,x =>.ext k t x
def oB(f:Nat->C):(os:List Ob)->PD os->List Nat->List (Nat×OC)
 |o :: r,x,n :: ns=>(n,um f o x.1) :: oB f r x.2 ns
 |_,_,_=>[]
def agz:C->Option Nat
 |.ref n 0=>ξ n
 |.bD n=>ξ n
 |.app _ _ n=>ξ n
 |.fS n=>ξ n
 |.xd n .top=>ξ n
 |_=>χ
def Zt(akH:List (Nat×Nat))(cl:Cl)(c:C):Option (List (Nat×Nat)):=
 match cl with
 |.obj k=>match agz c with
  |some n=>match look akH k with
   |some m=>match ab m n with
    |true=>ξ akH
    |false=>χ
   |none=>ξ ((k,n) :: akH)
  |none=>χ
 |_=>ξ akH
def Uk:List Cl->List C->List (Nat×Nat)->Option (List (Nat×Nat))
 |[],[],akH=>ξ akH
 |cl :: cls,c :: cs,akH=>match Zt akH cl c with
  |some as'=>Uk cls cs as'
  |none=>χ
 |_,_,_=>χ
def Zu:List Cl->List dI->List (Nat×Nat)->Option (List (Nat×Nat))
 |[],[],akH=>ξ akH
 |cl :: cls,v :: vs,akH=>match Zt akH cl (match v with|.one c=>c|.agg _ =>.any)with
  |some as'=>Zu cls vs as'
  |none=>χ
 |_,_,_=>χ
def C0(aK:List (Nat×OC)):Nat->List Ob->List (Nat×Nat)->Option (List (Nat×Nat))
 |_,[],akH=>ξ akH
 |k,.box _ cls :: r,akH=>match look akH k with
  |some n=>match look aK n with
   |some (.cells _ cs)=>match Uk cls cs akH with
    |some as'=>C0 aK (k+1) r as'
    |none=>χ
   |_=>χ
  |none=>χ
 |k,_ :: r,akH=>C0 aK (k+1) r akH
def Bo(akH:List (Nat×Nat)):Nat->Nat->Option (List Nat)
 |_,0=>ξ []
 |k,m+1=>match look akH k,Bo akH (k+1) m with
  |some n,ξ l=>ξ (n :: l)
  |_,_=>χ
def nodupB:List Nat->Bool
 |[]=>φ
 |n :: r =>!(pg n r)&&nodupB r
def Bp:List Nat->Nat->Option Nat
 |n :: _,0=>ξ n
 |_ :: r,k+1=>Bp r k
 |[],_=>χ
def yO:List Ob->Nat->Option Ob
 |o :: _,0=>ξ o
 |_ :: r,k+1=>yO r k
 |[],_=>χ
def ml(cv:Bool)(aK:List (Nat×OC))(aY:List Ob)(ν:List Nat)(k:Nat)(c:C):Bool:=
 match yO aY k,Bp ν k,c with
 |some (.box _ _),ξ n,.ref m 0=>ab n m
 |some (.row _ _),ξ n,.bD m=>ab n m&&(match look aK n with|some (.bD _ _)=>φ|_=>ψ)
 |some (.row _ t),ξ n,.app t' _ m=>cv&&(ab n m&&(Ty.beq t' t&&(match look aK n with|some (.tok _ _)=>φ|_=>ψ)))
 |some (.tok t),ξ n,.app t' _ m=>ab n m&&Ty.beq t' t
 |some (.ext 0 _),ξ n,.xd m .top=>ab n m
 |some (.ext (_+1) _),ξ n,.fS m=>ab n m
 |_,_,_=>ψ
def qI(cv:Bool)(aK:List (Nat×OC))(aY:List Ob)(ν:List Nat):(cls:List Cl)->List C->Option (CD cls)
 |[],[]=>ξ ()
 |.d t :: r,c :: cs=>match wh t c,qI cv aK aY ν r cs with
  |some x,ξ y=>ξ (x,y)
  |_,_=>χ
 |.obj k :: r,c :: cs=>match ml cv aK aY ν k c with
  |true=>qI cv aK aY ν r cs
  |false=>χ
 |.jx :: r,c :: cs=>match c with
  |.jx=>qI cv aK aY ν r cs
  |_=>χ
 |_,_=>χ
def oC(cv:Bool)(aK:List (Nat×OC))(aY:List Ob)(ν:List Nat):(cls:List Cl)->List dI->Option (CD cls)
 |[],[]=>ξ ()
 |.d t :: r,v :: vs=>match uj t v,oC cv aK aY ν r vs with
  |some x,ξ y=>ξ (x,y)
  |_,_=>χ
 |.obj k :: r,v :: vs=>match v with
  |.one c=>match ml cv aK aY ν k c with
   |true=>oC cv aK aY ν r vs
   |false=>χ
  |_=>χ
 |.jx :: r,v :: vs=>match v with
  |.one .jx=>oC cv aK aY ν r vs
  |_=>χ
 |_,_=>χ
def Zv(t t':Ty)(xs:List (D t')):Option (List (D t)):=
 match h:Ty.beq (.slice t') (.slice t)with
 |true=>ξ (dC h (a:=.slice t') (b:=.slice t) xs)
 |false=>χ
def toX(t t':Ty)(x:D t'):Option (D t):=
 match h:Ty.beq t' t with
 |true=>ξ (dC h x)
 |false=>χ
def l9(cv:Bool)(aK:List (Nat×OC))(aY:List Ob)(ν:List Nat):(o:Ob)->OC->Option (OD o)
 |.box T cls,.cells T' cs=>match ab T' T with
  |true=>qI cv aK aY ν cls cs
  |false=>χ
 |.row _ t,.bD t' xs=>Zv t t' xs
 |.row _ t,.tok t' xs=>match cv with
  |true=>Zv t t' xs
  |false=>χ
 |.tok t,.tok t' xs=>Zv t t' xs
 |.ext k t,.ext k' t' x=>match ab k' k with
  |true=>toX t t' x
  |false=>χ
 |_,_=>χ
def fI(cv:Bool)(aK:List (Nat×OC))(aY:List Ob)(ν:List Nat):(os:List Ob)->List Nat->Option (PD os)
 |[],[]=>ξ ()
 |o :: r,n :: ns=>match look aK n with
  |some oc=>match l9 cv aK aY ν o oc,fI cv aK aY ν r ns with
   |some x,ξ y=>ξ (x,y)
   |_,_=>χ
  |none=>χ
 |_,_=>χ
def xc:(os:List Ob)->PD os->Nat->C->List Prop
 |.tok t :: _,x,0,.app t' xs _=>match h:Ty.beq (.slice t') (.slice t)with
  |true=>[dC h (a:=.slice t') (b:=.slice t) xs=x.1]
  |false=>[False]
 |.row _ t :: _,x,0,.app t' xs _=>match h:Ty.beq (.slice t') (.slice t)with
  |true=>[dC h (a:=.slice t') (b:=.slice t) xs=x.1]
  |false=>[False]
 |_ :: r,x,k+1,c=>xc r x.2 k c
 |_,_,_,_=>[]
def sJ(aY:List Ob)(x:PD aY):List Cl->List C->List Prop
 |.obj k :: r,c :: cs=>xc aY x k c++sJ aY x r cs
 |_ :: r,_ :: cs=>sJ aY x r cs
 |_,_=>[]
def oT(aY:List Ob)(x:PD aY):List Cl->List dI->List Prop
 |.obj k :: r,v :: vs=>(match v with|.one c=>xc aY x k c|.agg _=>[])++oT aY x r vs
 |_ :: r,_ :: vs=>oT aY x r vs
 |_,_=>[]
def ky(aY:List Ob)(x:PD aY)(aK:List (Nat×OC)):List Ob->List Nat->List Prop
 |.box _ cls :: r,n :: ns=>(match look aK n with|some (.cells _ cs)=>sJ aY x cls cs|_=>[])++ky aY x aK r ns
 |_ :: r,_ :: ns=>ky aY x aK r ns
 |_,_=>[]
def Og:List Prop->Prop
 |[]=>True
 |[p]=>p
 |p :: q :: r=>p/\Og (q :: r)
def adS:List Prop->VC->VC
 |[],k=>k
 |p :: r,k =>.and p (adS r k)
def yP{n:Nat}:∀{l:List Nat},pg n l=φ->n∈l
 |[],h=>by simp[pg]at h
 |m :: r,h=>by
  simp only[pg]at h;split at h
  ·rename_i e;rw[ag e];simp
  ·simp[yP h]
def fT{α:Type}(l r:List (Nat×α))(n:Nat):look (l++r) n=match look l n with|some x=>ξ x|none=>look r n:=by
 induction l with
 |nil=>rfl
 |cons p l ih=>
  obtain⟨m,x⟩:=p;simp only[List.cons_append,look];cases ab m n
  ·exact ih
  ·rfl
section
variable(eT:TypeId)(X:Ext)
def Bq:Value->Value
 |.tuple vs=>vs.toList.headD .nilFunc
 |v=>v
def IV(ls:List Loc)(k:Nat)(v:Value):Prop:=∃l,ls[k]?=ξ l/\v=Bq l.v
def xe(S:bT)(F:Nat->Value->Prop):(cls:List Cl)->CD cls->List Value->Prop
 |[],_,vs=>vs=[]
 |.d t :: r,x,v :: vs=>VR eT t x.1 S.A S.w v/\xe S F r x.2 vs
 |.obj k :: r,x,v :: vs=>F k v/\xe S F r x vs
 |.jx :: r,x,v :: vs=>v=.pointer χ/\xe S F r x vs
 |_,_,_=>False
def Zw(S:bT)(F:Nat->Value->Prop):(o:Ob)->OD o->Loc->Prop
 |.box T cls,x,l=>∃b,∃vs:List Value,l.v=.pointer (ξ ⟨b,0,χ⟩)/\l.bs=[b]/\S.w.heap[b]?=ξ (.cells vs.toArray T (0,0))/\xe eT S F cls x vs/\∀v∈vs,v.oneCell'=φ
 |.row _ t,x,l=>OR eT X S l (.bD t x)
 |.tok t,x,l=>OR eT X S l (.tok t x)
 |.ext k t,x,l=>OR eT X S l (.ext k t x)
def Wm(S:bT)(F:Nat->Value->Prop):(os:List Ob)->PD os->List Loc->Prop
 |[],_,ls=>ls=[]
 |o :: r,x,l :: ls=>Zw eT X S F o x.1 l/\Wm S F r x.2 ls
 |_,_,_=>False
end
section
variable{eT:TypeId}{X:Ext}
def lf{a b:List Prop}:(∀p∈a++b,p)↔(∀p∈a,p)/\(∀p∈b,p):=by
 simp only[a8];exact⟨fun h=>⟨fun p hp=>h p (.inl hp),fun p hp=>h p (.inr hp)⟩,fun h p hp=>hp.elim (h.1 p) (h.2 p)⟩
def yQ:∀{l:List Prop},Og l->∀p∈l,p
 |[],_=>fun p hp=>by simp at hp
 |[q],h=>fun p hp=>by simp at hp;rw[hp];exact h
 |q :: r :: l,h=>fun p hp=>by
  rcases ah.1 hp with e|hp
  ·rw[e];exact h.1
  ·exact yQ h.2 p hp
def E2{k:VC}:∀{l:List Prop},(adS l k).holds->(∀p∈l,p)/\k.holds
 |[],h=>⟨fun p hp=>by simp at hp,h⟩
 |q :: l,h=>by
  obtain⟨h1,h2⟩:=h;obtain⟨h3,h4⟩:=E2 h2;exact⟨fun p hp=>by
   rcases ah.1 hp with e|hp
   ·rw[e];exact h1
   ·exact h3 p hp,h4⟩
def rf{t t':Ty}{xs:List (D t')}{ys:List (D t)}(h:Zv t t' xs=ξ ys):∃e:t'=t,e▸xs=ys:=by
 unfold Zv at h;split at h
 ·rename_i hb
  have:t'=t:=by have:=Ty.eq_of_beq hb;cases this;rfl
  subst this;cases h;exact⟨rfl,by rw[iH]⟩
 ·cases h
def Oh{t t':Ty}{x:D t'}{y:D t}(h:toX t t' x=ξ y):∃e:t'=t,e▸x=y:=by
 unfold toX at h;split at h
 ·rename_i hb
  have:=Ty.eq_of_beq hb;subst this;cases h;exact⟨rfl,by rw[l7]⟩
 ·cases h
def Ul{t t':Ty}{xs:List (D t')}{ys:List (D t)}(hb:Ty.beq t' t=φ)(h:∀p∈(match h:Ty.beq (.slice t') (.slice t)with
  |true=>[dC h (a:=.slice t') (b:=.slice t) xs=ys]
  |false=>[False]),p):∃e:t'=t,e▸xs=ys:=by
 have:=Ty.eq_of_beq hb;subst this;refine⟨rfl,?_⟩;split at h
 ·rename_i hb'
  have:=h (dC hb' (a:=.slice t') (b:=.slice t') xs=ys) ς;rw[iH]at this;exact this
 ·exact(h False ς).elim
def IW{cv:Bool}{aY:List Ob}{ν:List Nat}{O:aO}{st:St}{loc:Nat->Loc}{w:World}{c:C}{v:Value}(g:Good eT X (aD O st loc w))(hc:CR eT (aD O st loc w) c v) :
  ∀{os:List Ob} {ns:List Nat} {x:PD os} {k:Nat},fI cv st.aK aY ν os ns=ξ x->ml cv st.aK os ns k c=φ->(∀p∈xc os x k c,p)->IV (ns.map loc) k v:=by
 intro os;induction os with
 |nil=>intro ns x k _ h;simp[ml,yO]at h
 |cons o r ih=>
  intro ns x k hg hs hp;cases ns with
  |nil=>simp[fI]at hg
  |cons n ns=>
   simp only[fI]at hg;split at hg
   case h_2=>cases hg
   rename_i oc hob;split at hg
   case h_2=>cases hg
   rename_i x0 y0 h1 h2;cases hg;cases k with
   |succ k=>
    have hs':ml cv st.aK r ns k c=φ:=by simpa[ml,yO,Bp]using hs
    have hp':∀p∈xc r y0 k c,p:=by cases o <;> cases c <;> simpa[xc]using hp
    obtain⟨l,h3,h4⟩:=ih h2 hs' hp';exact⟨l,by simpa using h3,h4⟩
   |zero=>
    refine⟨loc n,ς,?_⟩;cases o with
    |box T cls=>
     cases c <;> simp[ml,yO,Bp]at hs;rename_i m off;cases off with
     |succ off=>simp at hs
     |zero=>
      have hs:n=m:=by simpa using hs
      subst hs;cases oc <;> simp only[l9,reduceCtorEq]at h1;obtain⟨b,k1,k2⟩:=hc.2 _ _ hob;have k1:(loc n).v=_:=k1;rw[k2,k1];rfl
    |row kp t=>
     cases c <;> simp[ml,yO,Bp]at hs
     ·rename_i t' xs m
      obtain⟨_,hs,hb,hk⟩:=hs;subst hs;simp only[xc]at hp;obtain⟨e,he⟩:=Ul hb hp;subst e;rw[hob]at hk;cases oc <;> simp at hk;rename_i t2 ys;cases cv <;> simp only[l9,reduceCtorEq]at h1;obtain⟨e2,h3⟩:=rf h1;subst e2;simp only at h3 he;subst h3;subst he;have hv:=(hc.2.2 _ hob).2 rfl;rcases(g.obj n _ hob).2 with⟨_,⟨a,ha⟩,_⟩|⟨b,vs,T,cap,ha,_⟩ <;> (rw[hv];show(loc n).v=Bq (loc n).v;rw[show(loc n).v=_ from ha];rfl)
     ·rename_i m
      obtain⟨hs,hk⟩:=hs;subst hs;rw[hob]at hk;cases oc <;> simp at hk;rw[hc.2 _ _ hob];rcases(g.obj n _ hob).2 with⟨_,⟨a,ha⟩,_⟩|⟨b,vs,T,cap,ha,_⟩ <;> rw[show(aD O st loc w).loc n=loc n from rfl,show(loc n).v=_ from ha] <;> rfl
    |tok t=>
     cases c <;> simp[ml,yO,Bp]at hs;rename_i t' xs m;obtain⟨hs,hb⟩:=hs;subst hs;simp only[xc]at hp;obtain⟨e,he⟩:=Ul hb hp;subst e;cases oc <;> simp only[l9,reduceCtorEq]at h1;obtain⟨e2,h3⟩:=rf h1;subst e2;simp only at h3 he;subst h3;subst he;have hv:=(hc.2.2 _ hob).2 rfl;rcases(g.obj n _ hob).2 with⟨_,⟨a,ha⟩,_⟩|⟨b,vs,T,cap,ha,_⟩ <;> (rw[hv];show(loc n).v=Bq (loc n).v;rw[show(loc n).v=_ from ha];rfl)
    |ext k t=>
     cases k with
     |zero=>
      cases c <;> simp[ml,yO,Bp]at hs;rename_i m p;cases p <;> simp at hs;subst hs;cases oc <;> simp only[l9,reduceCtorEq]at h1;split at h1
      case h_2=>cases h1
      rename_i hk;have hk:=ag hk;subst hk;obtain⟨hs',hl⟩:=hc.2 _ _ hob;rw[show(loc n).v=_ from hl];rfl
     |succ k=>
      cases c <;> simp[ml,yO,Bp]at hs;subst hs;cases oc <;> simp only[l9,reduceCtorEq]at h1;split at h1
      case h_2=>cases h1
      rename_i hk;have hk:=ag hk;have hgx:=(g.obj n _ hob).2;have hv:∃u,(loc n).v=u/\Bq u=u:=by
       subst hk;cases k with
       |zero=>obtain⟨e,_,b,es,gF,hm⟩:=X.map.1 hgx;exact⟨_,hm.lv,rfl⟩
       |succ k=>obtain⟨a,ha⟩:=X.ptr ω hgx;exact⟨_,ha,rfl⟩
      obtain⟨u,hu,hu2⟩:=hv;rw[hc.2 _ hob rfl,show(aD O st loc w).loc n=loc n from rfl,hu];exact hu2.symm
def Wn{cv:Bool}{aY:List Ob}{ν:List Nat}{x:PD aY}{O:aO}{st:St}{loc:Nat->Loc}{w:World}(g:Good eT X (aD O st loc w))(hx:fI cv st.aK aY ν aY ν=ξ x) :
  ∀{cls:List Cl} {cs:List C} {y:CD cls} {vs:List Value},qI cv st.aK aY ν cls cs=ξ y->fH eT (aD O st loc w) cs vs->(∀p∈sJ aY x cls cs,p)->
   xe eT (aD O st loc w) (IV (ν.map loc)) cls y vs:=by
 intro cls;induction cls with
 |nil=>
  intro cs y vs h hc _;cases cs with
  |nil=>cases hc;exact rfl
  |cons c cs=>simp[qI]at h
 |cons cl r ih=>
  intro cs y vs h hc hp;cases hc with
  |nil=>cases cl <;> simp[qI]at h
  |cons h1 h2 h3=>
   rename_i c v cs vs;cases cl with
   |d t=>
    simp only[qI]at h;split at h
    ·rename_i x0 y0 k1 k2
     cases h;exact⟨sA k1 h1,ih k2 h3 (fun p hp'=>hp p (by simpa[sJ]using hp'))⟩
    ·cases h
   |obj k=>
    simp only[qI]at h;split at h
    ·rename_i hs
     simp only[sJ]at hp;obtain⟨p1,p2⟩:=lf.1 hp;exact⟨IW g h1 hx hs p1,ih h h3 p2⟩
    ·cases h
   |jx=>
    simp only[qI]at h;split at h
    ·exact⟨h1,ih h h3 (fun p hp'=>hp p (by simpa[sJ]using hp'))⟩
    ·cases h
def JP{cv:Bool}{aY:List Ob}{ν:List Nat}{x:PD aY}{O:aO}{st:St}{loc:Nat->Loc}{w:World}(g:Good eT X (aD O st loc w))(hx:fI cv st.aK aY ν aY ν=ξ x) :
  ∀{cls:List Cl} {cs:List dI} {y:CD cls} {vs:List Value},oC cv st.aK aY ν cls cs=ξ y->dK eT (aD O st loc w) cs vs->(∀p∈oT aY x cls cs,p)->
   xe eT (aD O st loc w) (IV (ν.map loc)) cls y vs:=by
 intro cls;induction cls with
 |nil=>
  intro cs y vs h hc _;cases cs with
  |nil=>cases hc;exact rfl
  |cons c cs=>simp[oC]at h
 |cons cl r ih=>
  intro cs y vs h hc hp;cases hc with
  |nil=>cases cl <;> simp[oC]at h
  |cons h1 h3=>
   rename_i c v cs vs;cases cl with
   |d t=>
    simp only[oC]at h;split at h
    ·rename_i x0 y0 k1 k2
     cases h;exact⟨oz k1 h1,ih k2 h3 (fun p hp'=>hp p (by simpa[oT]using hp'))⟩
    ·cases h
   |obj k=>
    simp only[oC]at h;split at h
    ·split at h
     ·rename_i hs
      simp only[oT]at hp;obtain⟨p1,p2⟩:=lf.1 hp;exact⟨IW g h1 hx hs p1,ih h h3 p2⟩
     ·cases h
    ·cases h
   |jx=>
    simp only[oC]at h;split at h
    ·exact⟨h1,ih h h3 (fun p hp'=>hp p (by simpa[oT]using hp'))⟩
    ·cases h
def uI{cv:Bool}{aY:List Ob}{ν:List Nat}{x:PD aY}{O:aO}{st:St}{loc:Nat->Loc}{w:World}(g:Good eT X (aD O st loc w))(hx:fI cv st.aK aY ν aY ν=ξ x) :
  ∀{os:List Ob} {ns:List Nat} {y:PD os},fI cv st.aK aY ν os ns=ξ y->(∀p∈ky aY x st.aK os ns,p)->
   Wm eT X (aD O st loc w) (IV (ν.map loc)) os y (ns.map loc):=by
 intro os;induction os with
 |nil=>
  intro ns y h _;cases ns with
  |nil=>exact rfl
  |cons n ns=>simp[fI]at h
 |cons o r ih=>
  intro ns y h hp;cases ns with
  |nil=>simp[fI]at h
  |cons n ns=>
   simp only[fI]at h;split at h
   case h_2=>cases h
   rename_i oc hob;split at h
   case h_2=>cases h
   rename_i x0 y0 h1 h2;cases h;have hor:=(g.obj n oc hob).2;have hrest:∀p∈ky aY x st.aK r ns,p:=by
    cases o <;> simp only[ky]at hp
    ·exact(lf.1 hp).2
    ·exact hp
    ·exact hp
    ·exact hp
   refine⟨?_,ih h2 hrest⟩;show Zw eT X _ _ o x0 (loc n);cases o with
   |box T cls=>
    cases oc <;> simp only[l9,reduceCtorEq]at h1;rename_i T' cs;split at h1
    case h_2=>cases h1
    rename_i hT;have hT:=ag hT;subst hT;obtain⟨b,vs,k1,k2,k3,k4⟩:=hor;simp only[ky,hob]at hp;exact⟨b,vs,k1,k2,k3,Wn g hx h1 k4 (lf.1 hp).1,fun v hv=>fH.NQ k4 v hv⟩
   |row kp t=>
    cases oc <;> simp only[l9,reduceCtorEq]at h1
    ·obtain⟨e,h3⟩:=rf h1
     subst e;simp only at h3;subst h3;exact hor
    ·split at h1
     ·obtain⟨e,h3⟩:=rf h1
      subst e;simp only at h3;subst h3;exact hor
     ·cases h1
   |tok t=>
    cases oc <;> simp only[l9,reduceCtorEq]at h1;obtain⟨e,h3⟩:=rf h1;subst e;simp only at h3;subst h3;exact hor
   |ext k t=>
    cases oc <;> simp only[l9,reduceCtorEq]at h1;split at h1
    case h_2=>cases h1
    rename_i hk;have hk:=ag hk;subst hk;obtain⟨e,h3⟩:=Oh h1;subst e;simp only at h3;subst h3;exact hor
end
def lK:List Cl->Bool
 |[]=>φ
 |.d t :: r=>t.flat&&lK r
 |_ :: r=>lK r
def iR:List Ob->Bool
 |[]=>φ
 |.box _ cls :: r=>lK cls&&iR r
 |.row _ t :: r=>t.flat&&iR r
 |.tok t :: r=>t.flat&&iR r
 |.ext _ _ :: r=>iR r
def wy:List Ob->Bool
 |[]=>φ
 |.tok _ :: _=>ψ
 |_ :: r=>wy r
section
variable{eT:TypeId}{X:Ext}
def VR.to{t:Ty}{x:D t}{S S':bT}{v:Value}(hw:S'.w=S.w)(hA:t.flat=φ\/∀b o,S'.A b o->S.A b o)(h:VR eT t x S.A S.w v):VR eT t x S'.A S'.w v:=by
 rcases hA with hA|hA
 ·exact VR.of_flat hA h
 ·rw[hw];exact VR.IU h fun b o k h'=>k (hA b o h')
def Laid(eT:TypeId)(S:bT):(os:List Ob)->PD os->List Nat->List Loc->Prop
 |[],_,ns,ls=>ns=[]/\ls=[]
 |o :: r,x,n :: ns,l :: ls=>(S.loc n=l/\n<S.next/\(match o,x.1 with
  |.box _ _,_=>∃b,l.v=.pointer (ξ ⟨b,0,χ⟩)
  |.tok t,y=>VR eT (.slice t) y S.A S.w l.v/\∀ys,S.ob n=ξ (.tok t ys)->ys=y
  |.row _ _,_=>∃a k c,l.v=.slice a k c
  |.ext 0 _,_=>∃v,∃hs:List Value,l.v=.tuple (v :: hs).toArray
  |.ext (_+1) _,_=>Bq l.v=l.v))/\Laid eT S r x.2 ns ls
 |_,_,_,_=>False
def Gn{S:bT}:∀{os:List Ob} {x:PD os} {ns:List Nat} {ls:List Loc} {k:Nat} {v:Value},Laid eT S os x ns ls->IV ls k v->CR eT S (jL os x ns k) v:=by
 intro os;induction os with
 |nil=>intro x ns ls k v h hr;exact trivial
 |cons o r ih=>
  intro x ns ls k v h hr
  match ns,ls,h with
  |n :: ns,l :: ls,⟨⟨h1,h2,h3⟩,h4⟩=>
   obtain⟨l0,hl,hv⟩:=hr;cases k with
   |succ k=>exact ih h4 ⟨l0,by simpa using hl,hv⟩
   |zero=>
    simp at hl;subst hl;subst hv;show CR eT S (aiS o x.1 n) _;cases o with
    |box T cls=>
     obtain⟨b,hb⟩:=h3;rw[hb];exact⟨h2,fun T cs _=>⟨b,by rw[h1];exact hb,rfl⟩⟩
    |row kp t=>
     obtain⟨a,k,c,hb⟩:=h3;rw[hb];exact⟨h2,fun t xs _=>by rw[h1,hb];rfl⟩
    |tok t=>
     obtain⟨a,c,hb,_⟩:=xK h3.1;rw[show Bq l.v=l.v by rw[hb];rfl];exact⟨h3.1,h2,fun ys hy=>by rw[h3.2 ys hy];exact⟨ai _,fun _=>by rw[h1]⟩⟩
    |ext k t=>
     cases k with
     |zero=>
      obtain⟨v,hs,hb⟩:=h3;rw[hb];exact⟨h2,fun t x _=>⟨hs,by rw[h1,hb];rfl⟩⟩
     |succ k=>
      rw[show Bq l.v=l.v from h3];exact⟨h2,fun oc _ _=>by rw[h1]⟩
def adT{S S':bT}{F:Nat->Value->Prop}{f:Nat->C}(hw:S'.w=S.w)(hF:∀k v,F k v->CR eT S' (f k) v):∀{cls:List Cl} {x:CD cls} {vs:List Value},
  (lK cls=φ\/∀b o,S'.A b o->S.A b o)->xe eT S F cls x vs->(∀v∈vs,v.oneCell'=φ)->fH eT S' (Of f cls x) vs:=by
 intro cls;induction cls with
 |nil=>intro x vs _ h _;rw[show vs=[]from h];exact .nil
 |cons cl r ih=>
  intro x vs hA h h1;cases vs with
  |nil=>cases cl <;> exact h.elim
  |cons v vs=>
   have hr:lK r=φ\/∀b o,S'.A b o->S.A b o:=by
    rcases hA with hA|hA
    ·left;cases cl <;> simp[lK]at hA <;> first|exact hA.2|exact hA
    ·exact .inr hA
   cases cl with
   |d t=>
    refine .cons (VR.to hw ?_ h.1) (h1 v ς) (ih hr h.2 fun u hu=>h1 u (by simp[hu]));rcases hA with hA|hA
    ·left;simp[lK]at hA;exact hA.1
    ·exact .inr hA
   |obj k=>exact .cons (hF k v h.1) (h1 v ς) (ih hr h.2 fun u hu=>h1 u (by simp[hu]))
   |jx=>exact .cons h.1 (h1 v ς) (ih hr h.2 fun u hu=>h1 u (by simp[hu]))
def Oi{S S':bT}{F:Nat->Value->Prop}{f:Nat->C}(hw:S'.w=S.w)(hF:∀k v,F k v->CR eT S' (f k) v):∀{cls:List Cl} {x:CD cls} {vs:List Value},
  (lK cls=φ\/∀b o,S'.A b o->S.A b o)->xe eT S F cls x vs->dK eT S' (Bn f cls x) vs:=by
 intro cls;induction cls with
 |nil=>intro x vs _ h;rw[show vs=[]from h];exact .nil
 |cons cl r ih=>
  intro x vs hA h;cases vs with
  |nil=>cases cl <;> exact h.elim
  |cons v vs=>
   have hr:lK r=φ\/∀b o,S'.A b o->S.A b o:=by
    rcases hA with hA|hA
    ·left;cases cl <;> simp[lK]at hA <;> first|exact hA.2|exact hA
    ·exact .inr hA
   cases cl with
   |d t=>
    refine .cons (show VR eT t x.1 S'.A S'.w v from VR.to hw ?_ h.1) (ih hr h.2);rcases hA with hA|hA
    ·left;simp[lK]at hA;exact hA.1
    ·exact .inr hA
   |obj k=>exact .cons (hF k v h.1) (ih hr h.2)
   |jx=>exact .cons h.1 (ih hr h.2)
def mV.to{S S':bT}{t:Ty}{xs:List (D t)}{vs:Array Value}(hw:S'.w=S.w)(hA:t.flat=φ\/∀b o,S'.A b o->S.A b o)(h:mV eT S t xs vs):mV eT S' t xs vs:=by
 intro i y hy;obtain⟨us,h1,h2⟩:=h i y hy;refine⟨us,?_,h2⟩;rcases hA with hA|hA
 ·exact h1.of_flat hA
 ·rw[hw];exact h1.frame fun b o v k h'=>⟨h',fun h''=>k (hA b o h'')⟩
def Oj.to{S S':bT}{t:Ty}{xs:List (D t)}{l:Loc}(hw:S'.w=S.w)(hA:t.flat=φ\/∀b o,S'.A b o->S.A b o)(h:OR eT X S l (.bD t xs)):OR eT X S' l (.bD t xs):=by
 rcases h with h|⟨b,vs,T,cap,h1,h2,h3,h4,h5,h6,h7⟩
 ·exact .inl h
 ·exact .inr ⟨b,vs,T,cap,h1,h2,by rw[hw];exact h3,h4,h5,h6,h7.to hw hA⟩
def vy(o:Ob):Bool:=iR [o]
def aiU{S S':bT}{F:Nat->Value->Prop}{f:Nat->C}(hw:S'.w=S.w)(hF:∀k v,F k v->CR eT S' (f k) v){o:Ob}{x:OD o}{l:Loc}
  (hA:vy o=φ\/∀b o,S'.A b o->S.A b o)(h:Zw eT X S F o x l):OR eT X S' l (um f o x):=by
 cases o with
 |box T cls=>
  obtain⟨b,vs,h1,h2,h3,h4,h5⟩:=h;refine⟨b,vs,h1,h2,by rw[hw];exact h3,adT hw hF ?_ h4 h5⟩;rcases hA with hA|hA
  ·left;simpa[vy,iR]using hA
  ·exact .inr hA
 |row kp t=>
  refine Oj.to hw ?_ h;rcases hA with hA|hA
  ·left;simpa[vy,iR]using hA
  ·exact .inr hA
 |tok t=>
  refine Oj.to (X:=X) (l:=l) hw ?_ h;rcases hA with hA|hA
  ·left;simpa[vy,iR]using hA
  ·exact .inr hA
 |ext k t=>show X.rel _ _ _ _ _;rw[hw];exact h
def adU{S:bT}{t:Ty}{xs:List (D t)}{l:Loc}(h:OR eT X S l (.tok t xs))(hA:∀b∈l.bs,∀off,off<xs.length*t.size->¬S.A b off):VR eT (.slice t) xs S.A S.w l.v:=by
 rcases h with⟨rfl,⟨a,ha⟩,_⟩|⟨b,vs,T,cap,h1,h2,h3,h4,h5,h6,he⟩
 ·exact VR.dF rfl ⟨_,rfl,ς,.inl ⟨rfl,a,0,ha⟩⟩
 ·refine VR.dF rfl ⟨_,rfl,h6,.inr ⟨b,0,cap,h1,h5,fun i y hy =>?_⟩⟩
  obtain⟨us,r1,r2⟩:=he i y hy;refine⟨us,r1,fun j u hj=>⟨?_,?_⟩⟩
  ·rw[aw,cell_of_row S.w b _ vs T (0,0) h3];exact r2 j u hj
  ·rw[aw]
   refine hA b (by rw[h2];simp) _ ?_;have hi:=bR hy;have hjl:=bR hj;rw[r1.length]at hjl;have:(i+1)*t.size<=xs.length*t.size:=cu _ hi;rw[b9]at this;omega
def gR:List Nat->List Loc->(Nat->Loc)->Nat->Loc
 |n :: ns,l :: ls,d,m=>if n=m then l else gR ns ls d m
 |_,_,d,m=>d m
def ru:∀{ns:List Nat} {ls:List Loc} {d:Nat->Loc} {m:Nat},m∉ns->gR ns ls d m=d m
 |[],_,_,_,_=>by cases ‹List Loc› <;> rfl
 |n :: ns,[],_,_,_=>rfl
 |n :: ns,l :: ls,d,m,h=>by
  simp only[ah,not_or]at h;simp only[gR];rw[ε (fun e=>h.1 e.symm)];exact ru h.2
def E3{n:Nat}{l:List Nat}:pg n l=φ↔n∈l:=by
 refine⟨yP,fun h =>?_⟩;induction l with
 |nil=>simp at h
 |cons m r ih=>
  simp only[pg];split
  ·rfl
  ·rename_i hb
   rcases ah.1 h with h|h
   ·subst h;rw[bg]at hb;cases hb
   ·exact ih h
def qJ{n:Nat}{r:List Nat}(h:nodupB (n :: r)=φ):n∉r/\nodupB r=φ:=by
 simp only[nodupB,ae,bc]at h;exact⟨fun hm=>by rw[E3.2 hm]at h;exact absurd h.1 δ,h.2⟩
def mY:∀{ns:List Nat} {ls:List Loc} {d:Nat->Loc} {i n:Nat} {l:Loc},nodupB ns=φ->ns[i]?=ξ n->ls[i]?=ξ l->gR ns ls d n=l
 |[],_,_,_,_,_,_,h,_=>by simp at h
 |n :: ns,[],_,_,_,_,_,_,h=>by simp at h
 |n :: ns,l :: ls,d,0,m,k,_,h1,h2=>by simp at h1 h2;subst h1;subst h2;simp[gR]
 |n :: ns,l :: ls,d,i+1,m,k,hn,h1,h2=>by
  obtain⟨hm,hn⟩:=qJ hn;simp at h1 h2;simp only[gR];rw[ε (fun e=>hm (by rw[e];exact ax h1))];exact mY hn h1 h2
def uJ{cv:Bool}{aK:List (Nat×OC)}{aY:List Ob}{ν:List Nat}{f:Nat->C}{S:bT}{F:Nat->Value->Prop}{loc:Nat->Loc}:∀{os:List Ob} {x:PD os} {ns ms:List Nat} {m:Nat} {oc:OC},fI cv aK aY ν os ns=ξ x->Wm eT X S F os x (ns.map loc)->ns.length=ms.length->
  look (oB f os x ms) m=ξ oc->∃(i n:Nat) (o:Ob) (y:OD o) (oc0:OC),ns[i]?=ξ n/\ms[i]?=ξ m/\os[i]?=ξ o/\look aK n=ξ oc0/\l9 cv aK aY ν o oc0=ξ y/\oc=um f o y/\Zw eT X S F o y (loc n):=by
 intro os;induction os with
 |nil=>intro x ns ms m oc _ _ _ h;simp[oB,look]at h
 |cons o r ih=>
  intro x ns ms m oc hg hR hl h;cases ns with
  |nil=>simp[fI]at hg
  |cons n ns=>
   cases ms with
   |nil=>simp at hl
   |cons k ms=>
    simp only[fI]at hg;split at hg
    case h_2=>cases hg
    rename_i oc0 hob;split at hg
    case h_2=>cases hg
    rename_i x0 y0 h1 h2;cases hg;simp only[oB,cX]at h;split at h
    ·rename_i e
     cases h;exact⟨0,n,o,x0,oc0,rfl,by simp[e],rfl,hob,h1,rfl,hR.1⟩
    ·obtain⟨i,n',o',y',oc',k1,k2,k3,k4⟩:=ih h2 hR.2 (by simpa using hl) h
     exact⟨i+1,n',o',y',oc',by simpa using k1,by simpa using k2,by simpa using k3,k4⟩
def IX{cv:Bool}{aK:List (Nat×OC)}{aY:List Ob}{ν:List Nat}{f:Nat->C}{o:Ob}{y:OD o}{oc:OC}(h:l9 cv aK aY ν o oc=ξ y):(um f o y).lo=oc.lo\/cv=φ:=by
 cases o <;> cases oc <;> simp only[l9,reduceCtorEq]at h
 ·exact .inl rfl
 ·exact .inl rfl
 ·split at h
  ·exact .inr rfl
  ·cases h
 ·obtain⟨e,h3⟩:=rf h
  subst e;simp only at h3;subst h3;exact .inl rfl
 ·exact .inl rfl
def ot{cv:Bool}{aK:List (Nat×OC)}{aY:List Ob}{ν:List Nat}{o:Ob}{y:OD o}{oc:OC}(h:l9 cv aK aY ν o oc=ξ y)(f:Nat->C):(∀T cls,o=.box T cls->∃cs,oc=.cells T cs)/\
  (∀k t,o=.ext k t->∃x,oc=.ext k t x)/\(∀k t,o=.row k t->cv=ψ->∃xs,oc=.bD t xs)/\((∀t,o≠.tok t)->cv=ψ->∀t xs,oc≠.tok t xs):=by
 refine⟨fun T cls e =>?_,fun k t e =>?_,fun k t e e2 =>?_,fun h1 h2 t xs e =>?_⟩
 ·subst e
  cases oc <;> simp only[l9,reduceCtorEq]at h;split at h
  ·rename_i hT;rw[ag hT];exact⟨_,rfl⟩
  ·cases h
 ·subst e
  cases oc <;> simp only[l9,reduceCtorEq]at h;split at h
  ·rename_i hT
   obtain⟨e,_⟩:=Oh h;subst e;rw[ag hT];exact⟨_,rfl⟩
  ·cases h
 ·subst e;subst e2
  cases oc <;> simp only[l9,reduceCtorEq]at h
  ·obtain⟨e,_⟩:=rf h
   subst e;exact⟨_,rfl⟩
 ·subst e;subst h2
  cases o <;> simp only[l9,reduceCtorEq]at h;exact h1 _ rfl
def rV{cv:Bool}{aK:List (Nat×OC)}{aY:List Ob}{ν:List Nat}:∀{os:List Ob} {ns:List Nat} {x:PD os},fI cv aK aY ν os ns=ξ x->os.length=ns.length:=by
 intro os;induction os with
 |nil=>intro ns x h;cases ns with|nil=>rfl|cons=>simp[fI]at h
 |cons o r ih=>
  intro ns x h;cases ns with
  |nil=>simp[fI]at h
  |cons n ns=>
   simp only[fI]at h;split at h
   case h_2=>cases h
   split at h
   case h_2=>cases h
   rename_i h2;simp[ih h2]
def tM{f:Nat->C}:∀{os:List Ob} {x:PD os} {ms:List Nat} {m:Nat},os.length=ms.length->m∈ms->∃oc,look (oB f os x ms) m=ξ oc:=by
 intro os;induction os with
 |nil=>intro x ms m h hm;cases ms with|nil=>simp at hm|cons=>simp at h
 |cons o r ih=>
  intro x ms m h hm;cases ms with
  |nil=>simp at h
  |cons k ms=>
   simp only[oB,cX];by_cases e:k=m
   ·exact⟨_,by rw[π e]⟩
   ·rw[ε e]
    rcases ah.1 hm with hm|hm
    ·exact(e hm.symm).elim
    ·exact ih (by simpa using h) hm
def tN:∀{l:List Nat} {i j n:Nat},nodupB l=φ->l[i]?=ξ n->l[j]?=ξ n->i=j
 |[],_,_,_,_,h,_=>by simp at h
 |m :: r,0,0,_,_,_,_=>rfl
 |m :: r,0,j+1,n,hn,h1,h2=>by
  simp at h1 h2;subst h1;exact((qJ hn).1 (ax h2)).elim
 |m :: r,i+1,0,n,hn,h1,h2=>by
  simp at h1 h2;subst h2;exact((qJ hn).1 (ax h1)).elim
 |m :: r,i+1,j+1,n,hn,h1,h2=>by
  simp at h1 h2;rw[tN (qJ hn).2 h1 h2]
def Br{a:Ob}{r:List Ob}(h:iR (a :: r)=φ):vy a=φ/\iR r=φ:=by
 cases a <;> simp[iR,vy]at h ⊢ <;> exact h
def DJ:∀{l:List Ob} {i:Nat} {o:Ob},iR l=φ->l[i]?=ξ o->vy o=φ
 |[],_,_,_,h=>by simp at h
 |a :: r,0,o,hfl,h=>by simp at h;subst h;exact(Br hfl).1
 |a :: r,i+1,o,hfl,h=>DJ (Br hfl).2 (by simpa using h)
def ahd{S S2:bT}{F:Nat->Value->Prop}{f:Nat->C}{loc:Nat->Loc}(hNA:∀m t ys,S2.ob m=ξ (.tok t ys)->∀b∈(S2.loc m).bs,∀off,off<ys.length*t.size->¬S2.A b off)(hw:S2.w=S.w) :
  ∀{os:List Ob} {x:PD os} {ns ms:List Nat},(iR os=φ\/∀b o,S2.A b o->S.A b o)->Wm eT X S F os x (ns.map loc)->nodupB ms=φ->ns.length=ms.length->(∀n∈ms,S2.ob n=look (oB f os x ms) n)->
   (∀(i n m:Nat),ns[i]?=ξ n->ms[i]?=ξ m->S2.loc m=loc n/\m<S2.next)->Laid eT S2 os x ms (ns.map loc):=by
 intro os;induction os with
 |nil=>
  intro x ns ms _ h _ hl _ _;have h:ns.map loc=[]:=h;cases ns with
  |nil=>cases ms with
   |nil=>exact⟨rfl,rfl⟩
   |cons=>simp at hl
  |cons=>simp at h
 |cons o r ih=>
  intro x ns ms hA h hnd hl hob hloc;cases ns with
  |nil=>exact h.elim
  |cons n ns=>
   cases ms with
   |nil=>simp at hl
   |cons m ms=>
    obtain⟨hm,hnd'⟩:=qJ hnd;obtain⟨h1,h2⟩:=hloc 0 n m rfl rfl;have hA':iR r=φ\/∀b o,S2.A b o->S.A b o:=by
     rcases hA with hA|hA
     ·left;cases o <;> simp[iR]at hA <;> first|exact hA.2|exact hA
     ·exact .inr hA
    refine⟨⟨h1,h2,?_⟩,ih hA' h.2 hnd' (by simpa using hl) (fun k hk =>?_) (fun i a b ha hb=>hloc (i+1) a b (by simpa using ha) (by simpa using hb))⟩
    ·cases o with
     |box T cls=>obtain⟨b,vs,k1,_⟩:=h.1;exact⟨b,k1⟩
     |row kp t=>rcases h.1 with⟨_,⟨a,ha⟩,_⟩|⟨b,vs,T,cap,ha,_⟩ <;> exact⟨_,_,_,ha⟩
     |tok t=>
      have hobm:S2.ob m=ξ (.tok t x.1):=by rw[hob m ς];simp[oB,cX,um]
      refine⟨?_,fun ys hy=>by rw[hobm]at hy;cases hy;rfl⟩;refine adU (X:=X) (Oj.to (X:=X) (l:=loc n) hw ?_ h.1) fun b hb off ho=>hNA m t x.1 hobm b (by rw[h1];exact hb) off ho
      rcases hA with hA|hA
      ·left;simp[iR]at hA;exact hA.1
      ·exact .inr hA
     |ext k t=>
      cases k with
      |zero=>
       have hd:=X.deep.1 h.1;obtain⟨e,s,rfl,_⟩:=wj hd;obtain⟨_,_,v,hs,hv,_⟩:=hd;exact⟨v,hs,hv⟩
      |succ k=>
       show Bq (loc n).v=(loc n).v;cases k with
       |zero=>obtain⟨e,_,b,es,gF,hm⟩:=X.map.1 h.1;rw[hm.lv];rfl
       |succ k=>obtain⟨a,ha⟩:=X.ptr ω h.1;rw[ha];rfl
    ·rw[hob k (by simp[hk])]
     simp only[oB,cX];rw[ε (fun e=>hm (by rw[e];exact hk))]
def Wo{cv:Bool}{aY:List Ob}{ν:List Nat}{x:PD aY}{O:aO}{st:St}{loc:Nat->Loc}{w:World}(g:Good eT X (aD O st loc w))(hx:fI cv st.aK aY ν aY ν=ξ x)
  (hp:∀p∈ky aY x st.aK aY ν,p)(hnd:nodupB ν=φ)
  {O2:aO}{ν2:List Nat}{rest:List (Nat×OC)}{locR:Nat->Loc}{st2:St}(hnd2:nodupB ν2=φ)(hlen:ν.length=ν2.length)
  (hobjs:st2.aK=oB (jL aY x ν2) aY x ν2++rest)(hlt:∀n∈ν2,n<st2.next)
  (hO2:∀n∈ν,∀b∈(loc n).bs,∀off,¬O2 b off)
  (hD:∀n∈ν,∀b∈(loc n).bs,∀m oc,look rest m=ξ oc->m∉ν2->b∉(locR m).bs)
  (hR:∀m oc,look rest m=ξ oc->m∉ν2->m<st2.next/\OR eT X (aD O2 st2 (gR ν2 (ν.map loc) locR) w) (locR m) oc)
  (hR2:∀m m' oc oc' b,look rest m=ξ oc->look rest m'=ξ oc'->m∉ν2->m'∉ν2->b∈(locR m).bs->b∈(locR m').bs->m=m')
  (hR3:∀m oc b off,look rest m=ξ oc->m∉ν2->b∈(locR m).bs->¬O2 b off)
  (hA:iR aY=φ\/∀b o,(aD O2 st2 (gR ν2 (ν.map loc) locR) w).A b o->(aD O st loc w).A b o)
  (hGl:∀b∈X.JA,¬(aD O2 st2 (gR ν2 (ν.map loc) locR) w).owns b) :
  Good eT X (aD O2 st2 (gR ν2 (ν.map loc) locR) w)/\Laid eT (aD O2 st2 (gR ν2 (ν.map loc) locR) w) aY x ν2 (ν.map loc):=by
 have hobs:=uI (X:=X) g hx hx hp;have hol:=rV hx;generalize hf:jL aY x ν2=f at hobjs;have hob:∀m oc,(aD O2 st2 (gR ν2 (ν.map loc) locR) w).ob m=ξ oc->
   (∃(i n:Nat) (o:Ob) (y:OD o) (oc0:OC),ν[i]?=ξ n/\ν2[i]?=ξ m/\look st.aK n=ξ oc0/\l9 cv st.aK aY ν o oc0=ξ y/\oc=um f o y/\Zw eT X (aD O st loc w) (IV (ν.map loc)) o y (loc n)/\
    gR ν2 (ν.map loc) locR m=loc n/\aY[i]?=ξ o)\/
   (look rest m=ξ oc/\m∉ν2/\gR ν2 (ν.map loc) locR m=locR m):=by
  intro m oc h;simp only[aD,hobjs]at h;rw[fT]at h;split at h
  ·rename_i oc' h'
   cases h;obtain⟨i,n,o,y,oc0,k1,k2,k3,k4,k5,k6,k7⟩:=uJ hx hobs hlen h';exact .inl ⟨i,n,o,y,oc0,k1,k2,k4,k5,k6,k7,mY hnd2 k2 (by simp[k1]),k3⟩
  ·rename_i h'
   have:m∉ν2:=fun hm=>by
    obtain⟨oc1,h1⟩:=tM (f:=f) (x:=x) ω hm;rw[h1]at h';cases h'
   exact .inr ⟨h,this,ru this⟩
 have hap:∀m m' oc oc' b,(aD O2 st2 (gR ν2 (ν.map loc) locR) w).ob m=ξ oc->(aD O2 st2 (gR ν2 (ν.map loc) locR) w).ob m'=ξ oc'->
   b∈(gR ν2 (ν.map loc) locR m).bs->b∈(gR ν2 (ν.map loc) locR m').bs->m=m':=by
  intro m m' oc oc' b h1 h2 h3 h4;rcases hob m oc h1 with⟨i,n,o,y,oc0,k1,k2,k4,_,_,_,k8,_⟩|⟨k1,k2,k3⟩ <;> rcases hob m' oc' h2 with⟨i',n',o',y',oc0',j1,j2,j4,_,_,_,j8,_⟩|⟨j1,j2,j3⟩
  ·rw[k8]at h3;rw[j8]at h4
   have e:=g.apart n n' oc0 oc0' b k4 j4 h3 h4;subst e;have:=tN hnd k1 j1;subst this;rw[k2]at j2;cases j2;rfl
  ·rw[k8]at h3;rw[j3]at h4
   exact(hD n (ax k1) b h3 m' oc' j1 j2 h4).elim
  ·rw[k3]at h3;rw[j8]at h4
   exact(hD n' (ax j1) b h4 m oc k1 k2 h3).elim
  ·rw[k3]at h3;rw[j3]at h4
   exact hR2 m m' oc oc' b k1 j1 k2 j2 h3 h4
 have hout:∀m oc b off,(aD O2 st2 (gR ν2 (ν.map loc) locR) w).ob m=ξ oc->b∈(gR ν2 (ν.map loc) locR m).bs->¬O2 b off:=by
  intro m oc b off h1 h2;rcases hob m oc h1 with⟨i,n,o,y,oc0,k1,k2,k4,_,_,_,k8,_⟩|⟨k1,k2,k3⟩
  ·rw[k8]at h2;exact hO2 n (ax k1) b h2 off
  ·rw[k3]at h2;exact hR3 m oc b off k1 k2 h2
 have hNA:∀m t ys,(aD O2 st2 (gR ν2 (ν.map loc) locR) w).ob m=ξ (.tok t ys)->∀b∈((aD O2 st2 (gR ν2 (ν.map loc) locR) w).loc m).bs,∀off,off<ys.length*t.size->¬(aD O2 st2 (gR ν2 (ν.map loc) locR) w).A b off:=by
  rintro m t ys h1 b hb off ho (h2|⟨m',oc',h2,h3,h4⟩)
  ·exact hout m _ b off h1 hb h2
  ·have:=hap m m' _ oc' b h1 h2 hb h3
   subst this;rw[h1]at h2;cases h2;simp only[OC.lo]at h4;omega
 have hlaid:Laid eT (aD O2 st2 (gR ν2 (ν.map loc) locR) w) aY x ν2 (ν.map loc):=by
  refine ahd (X:=X) (S:=aD O st loc w) (f:=f) hNA rfl hA hobs hnd2 hlen (fun n hn =>?_) (fun i n m h1 h2=>⟨mY hnd2 h2 (by simp[h1]),hlt m (ax h2)⟩);show look st2.aK n=_;rw[hobjs,fT];obtain⟨oc1,h1⟩:=tM (f:=f) (x:=x) ω hn;rw[h1]
 refine⟨⟨fun m oc h =>?_,fun m m' oc oc' b h1 h2 h3 h4=>hap m m' oc oc' b h1 h2 h3 h4,fun m oc b off h1 h2=>hout m oc b off h1 h2,g.nw.1,hGl⟩,hlaid⟩;rcases hob m oc h with⟨i,n,o,y,oc0,k1,k2,k4,k5,k6,k7,k8,k9⟩|⟨k1,k2,k3⟩
 ·refine⟨hlt m (ax k2),?_⟩
  show OR _ _ _ (gR ν2 (ν.map loc) locR m) oc;rw[k8,k6];refine aiU (S:=aD O st loc w) (S':=aD O2 st2 (gR ν2 (ν.map loc) locR) w) rfl (fun k v hk=>by rw[<-hf];exact Gn hlaid hk) ?_ k7;rcases hA with hA|hA
  ·left
   exact DJ hA k9
  ·exact .inr hA
 ·obtain⟨h1,h2⟩:=hR m oc k1 k2
  refine⟨h1,?_⟩;show OR _ _ _ (gR ν2 (ν.map loc) locR m) oc;rw[k3];exact h2
def upto:Nat->Nat->List Nat
 |_,0=>[]
 |k,m+1=>k :: upto (k+1) m
def agA(aY:List Ob)(cls:List Cl)(vs:List dI)(aK:List (Nat×OC))(akH:List (Nat×Nat)):Option (List Nat):=
 match Zu cls vs akH with
 |some as1=>match C0 aK 0 aY as1 with
  |some as2=>Bo as2 0 aY.length
  |none=>χ
 |none=>χ
def E4:∀(m k i:Nat),i<m->(upto k m)[i]?=ξ (k+i)
 |m+1,k,0,_=>by simp[upto]
 |m+1,k,i+1,h=>by
  simp only[upto,List.getElem?_cons_succ];rw[E4 m (k+1) i ω];congr 1;omega
def vz:∀{m k n:Nat},n∈upto k m->k<=n/\n<k+m
 |0,k,n,h=>by simp[upto]at h
 |m+1,k,n,h=>by
  simp only[upto,ah]at h;rcases h with h|h
  ·omega
  ·have:=vz h;omega
def yR:∀(m k:Nat),(upto k m).length=m
 |0,_=>rfl
 |m+1,k=>by simp[upto,yR m]
def mZ:∀(m k:Nat),nodupB (upto k m)=φ
 |0,_=>rfl
 |m+1,k=>by
  simp only[upto,nodupB,mZ m,ep,bc];rw[Bool.eq_false_iff];intro h;have:=vz (E3.1 h);omega
def o6{cv:Bool}{aK:List (Nat×OC)}{aY:List Ob}{ν:List Nat}:∀{os:List Ob} {ns:List Nat} {x:PD os} {n:Nat},fI cv aK aY ν os ns=ξ x->n∈ns->
  ∃o oc y,o∈os/\look aK n=ξ oc/\l9 cv aK aY ν o oc=ξ y:=by
 intro os;induction os with
 |nil=>intro ns x n h hn;cases ns with|nil=>simp at hn|cons=>simp[fI]at h
 |cons o r ih=>
  intro ns x n h hn;cases ns with
  |nil=>simp at hn
  |cons k ns=>
   simp only[fI]at h;split at h
   case h_2=>cases h
   rename_i oc hob;split at h
   case h_2=>cases h
   rename_i x0 y0 h1 h2;rcases ah.1 hn with e|hn
   ·subst e;exact⟨o,oc,x0,ς,hob,h1⟩
   ·obtain⟨o',oc',y',k1,k2⟩:=ih h2 hn
    exact⟨o',oc',y',by simp[k1],k2⟩
end
inductive Ex where
 |normal
 |exit (n:Nat)
 |ret
def Nt:(cls:List Cl)->CD cls
 |[]=>()
 |.d t :: r=>(cD t,Nt r)
 |.obj _ :: r=>Nt r
 |.jx :: r=>Nt r
def ajS:(o:Ob)->OD o
 |.box _ cls=>Nt cls
 |.row _ _=>[]
 |.tok _=>[]
 |.ext _ t=>cD t
def Wp:(os:List Ob)->PD os
 |[]=>()
 |o :: r=>(ajS o,Wp r)
structure ll:Type 1 where
 X:Type
 inv:X->Prop
 bG:X->Nat
 bB:X->List (Nat×SV)
 aK:X->List (Nat×OC):=fun _=>[]
 keep:List Nat
 gZ:List Nat:=[]
 dU:List Nat:=[]
 aY:List Ob:=[]
 refs:List (Nat×Nat):=[]
 pd:X->PD aY:=fun _=>Wp aY
 stay:List Nat:=[]
@[reducible] def sI(x:Int):SV:=.s (.one (.d (.int .i64) x))
@[reducible] def sB(x:Bool):SV:=.s (.one (.d .bool x))
@[reducible] def sS(x:List UInt8):SV:=.s (.one (.d .str x))
@[reducible] def sD(t:Ty)(x:D t):SV:=.s (.one (.d t x))
abbrev cP:=List (Nat×(St->ll))
def yS:C->C->Prop
 |.lit b,.d .bool c=>b=c
 |.d t x,.d t' y=>match h:Ty.beq t t' with
  |true=>dC h x=y
  |false=>False
 |.app t xs n,.app t' ys m=>match h:Ty.beq (.slice t) (.slice t'),ab n m with
  |true,φ=>dC h (a:=.slice t) (b:=.slice t') xs=ys
  |_,_=>False
 |a,b=>a=b
def qK:SV->SV->Prop
 |.s (.one a),.s (.one b)=>yS a b
 |a,b=>a=b
def Bs:List C->List C->Prop
 |[],[]=>True
 |a :: akH,b :: bs=>yS a b/\Bs akH bs
 |_,_=>False
def pJ:OC->OC->Prop
 |.cells T cs,.cells T' cs'=>match ab T T' with
  |true=>Bs cs cs'
  |false=>False
 |.bD t xs,.bD t' ys=>match h:Ty.beq (.slice t) (.slice t')with
  |true=>dC h (a:=.slice t) (b:=.slice t') xs=ys
  |false=>False
 |.arr t xs,.arr t' ys=>match h:Ty.beq (.slice t) (.slice t')with
  |true=>dC h (a:=.slice t) (b:=.slice t') xs=ys
  |false=>False
 |.tok t xs,.tok t' ys=>match h:Ty.beq (.slice t) (.slice t')with
  |true=>dC h (a:=.slice t) (b:=.slice t') xs=ys
  |false=>False
 |.ext k t x,.ext k' t' y=>match ab k k',h:Ty.beq t t' with
  |true,φ=>dC h x=y
  |_,_=>False
 |.iter cs seen cl,.iter cs' seen' cl'=>Bs cs cs'/\seen=seen'/\cl=cl'
 |_,_=>False
def oU(st:St):List (Nat×SV)->Prop
 |[]=>True
 |(n,v) :: r=>match look st.env n with
  |some u=>qK u v/\oU st r
  |none=>False
def oV(st:St):List (Nat×OC)->Prop
 |[]=>True
 |(n,v) :: r=>match look st.aK n with
  |some u=>pJ u v/\oV st r
  |none=>False
def qk(st:St):List Nat->List (Nat×SV)
 |[]=>[]
 |t :: r=>match look st.env t with
  |some v=>(t,v) :: qk st r
  |none=>qk st r
def j9(st:St):List Nat->List (Nat×OC)
 |[]=>[]
 |t :: r=>match look st.aK t with
  |some v=>(t,v) :: j9 st r
  |none=>j9 st r
def cL(an:ll)(st:St)(x:an.X):St:=
 {env:=an.bB x++qk st an.keep,aK:=an.aK x++j9 st an.gZ,next:=st.next}
def eV(l:List Oper):List Nat:=l.filterMap (·.dst)
def writes(anns:cP):Nat->Code->List Nat
 |_,.region _ ops _=>eV ops.toList
 |k,.seq a b=>writes anns k a++writes anns k b
 |k,.cond _ a b=>writes anns k a++writes anns k b
 |_,.block id b=>writes anns id b
 |k,.loop b=>match look anns (k+200000)with
  |some _=>allM :: writes anns k b
  |none=>writes anns k b
 |_,_=>[]
def yT(n:Nat):List Nat->Bool
 |[]=>ψ
 |m :: r=>match ab m n with
  |true=>φ
  |false=>yT n r
def wz(l:List Nat)(W:List Nat):Bool:=match l with
 |[]=>φ
 |_ =>!(yT allM W)&&l.all fun n =>!(yT n W)
def mc(k:Nat):List Nat->Bool
 |[]=>φ
 |n :: r=>ao n k&&mc k r
def tO(k:Nat):C->Bool
 |.app _ _ n|.bD n|.q8 n|.fS n|.xd n _|.ref n _|.vh n|.ox n _ _ _|.rE n _ _ _=>ao n k
 |.fn _ caps=>mc k caps
 |_=>φ
def rv(k:Nat):List C->Bool
 |[]=>φ
 |c :: r=>tO k c&&rv k r
def Ok(k:Nat):dI->Bool
 |.one c=>tO k c
 |.agg cs=>rv k cs
def lP(k:Nat):List (Nat×SV)->Bool
 |[]=>φ
 |(_,.s v) :: r=>Ok k v&&lP k r
 |(_,.pD _) :: _=>ψ
def Um(k:Nat):OC->Bool
 |.cells _ cs=>rv k cs
 |.iter cs _ _=>rv k cs
 |_=>φ
def lA(k:Nat):List (Nat×OC)->Bool
 |[]=>φ
 |(n,oc) :: r=>ao n k&&Um k oc&&lA k r
def pK(env:List (Nat×SV)):List Nat->Bool
 |[]=>φ
 |t :: r=>match look env t with
  |some _=>pK env r
  |none=>ψ
def pL(W:List Nat):List (Nat×SV)->Bool
 |[]=>φ
 |(n,_) :: r=>yT n W&&pL W r
def Gp(env:List (Nat×SV)):List Nat->List Nat
 |[]=>[]
 |t :: r=>match look env t with
  |some (.s _)=>t :: Gp env r
  |_=>Gp env r
def tP(dU:List Nat):List (Nat×OC)->List Nat
 |[]=>[]
 |(n,_) :: r=>match yT n dU with
  |true=>tP dU r
  |false=>n :: tP dU r
def C1(st:St)(an:ll):ll:=
 {an with keep:=Gp st.env an.keep,gZ:=match an.gZ with
  |[]=>tP an.dU st.aK
  |l=>l}
def bI(ty:Ty)(st:St)(t:Nat):D ty:=
 match look st.env t with
 |some (.s c)=>match uj ty c with
  |some x=>x
  |none=>cD ty
 |_=>cD ty
def rowOf(ty:Ty)(st:St)(n:Nat):List (D ty):=
 match look st.aK n with
 |some (.bD t xs)=>match h:Ty.beq (.slice t) (.slice ty)with
  |true=>dC h (a:=.slice t) xs
  |false=>[]
 |some (.arr t xs)=>match h:Ty.beq (.slice t) (.slice ty)with
  |true=>dC h (a:=.slice t) xs
  |false=>[]
 |some (.tok t xs)=>match h:Ty.beq (.slice t) (.slice ty)with
  |true=>dC h (a:=.slice t) xs
  |false=>[]
 |_=>[]
def aS(st:St)(t:Nat):Nat:=
 match look st.env t with
 |some (.s (.one (.bD n)))=>n
 |some (.s (.one (.q8 n)))=>n
 |some (.s (.one (.fS n)))=>n
 |some (.s (.one (.xd n _)))=>n
 |some (.s (.one (.ref n _)))=>n
 |some (.s (.one (.app _ _ n)))=>n
 |_=>0
def aiV(st:St)(n:Nat)(seen:List Int):OC:=
 match look st.aK n with
 |some (.iter cs _ cl) =>.iter cs seen cl
 |_ =>.iter [] seen 0
def iT(st:St)(n k:Nat):Nat:=
 match look st.aK n with
 |some (.cells _ cs)=>match cs[k]? with
  |some (.bD m)=>m
  |some (.ref m _)=>m
  |some (.app _ _ m)=>m
  |some (.fS m)=>m
  |some (.xd m _)=>m
  |_=>0
 |_=>0
def Wq(ty:Ty)(st:St)(n k:Nat):D ty:=
 match look st.aK n with
 |some (.cells _ cs)=>match cs[k]? with
  |some c=>match wh ty c with
   |some x=>x
   |none=>cD ty
  |none=>cD ty
 |_=>cD ty
def ahe(_:Nat)(_:St):Prop:=False
def nV(an:ll)(st st':St):VC:=
 match pK st'.env an.keep with
 |true =>.leaf (∃x',an.inv x'/\oU st' (an.bB x')/\oV st' (an.aK x'++j9 st an.gZ))
 |false =>.ff
def agB(st:St):List (Nat×Nat)->Option (List (Nat×Nat))
 |[]=>ξ []
 |(t,k) :: r=>match look st.env t,agB st r with
  |some (.s (.one c)),ξ akH=>match agz c with
   |some n=>match look akH k with
    |some _=>ξ akH
    |none=>ξ ((k,n) :: akH)
   |none=>χ
  |_,_=>χ
def xT(st:St)(an:ll):Option (List Nat):=
 match agB st an.refs with
 |some as1=>match C0 st.aK 0 an.aY as1 with
  |some as2=>Bo as2 0 an.aY.length
  |none=>χ
 |none=>χ
def xU(st:St)(an:ll)(ν:List Nat):List (Nat×Nat)->Bool
 |[]=>φ
 |(t,k) :: r=>(match look st.env t with
  |some (.s (.one c))=>ml ψ st.aK an.aY ν k c
  |_=>ψ)&&xU st an ν r
def C2(st:St)(an:ll)(y:PD an.aY):List (Nat×Nat)->List Prop
 |[]=>[]
 |(t,k) :: r=>(match look st.env t with
  |some (.s (.one c))=>xc an.aY y k c
  |_=>[])++C2 st an y r
def Bt(an:ll)(y:PD an.aY)(us:List Nat):List (Nat×Nat)->List (Nat×SV)
 |[]=>[]
 |(t,k) :: r=>(t,.s (.one (jL an.aY y us k))) :: Bt an y us r
def C3(an:ll)(st:St)(x:an.X):List (Nat×SV):=an.bB x++qk st an.keep
def rW(an:ll)(st:St)(x:an.X):List (Nat×OC):=an.aK x++j9 st an.gZ
def aiW(s:List Nat):Nat->Nat->List Nat->List Nat
 |_,_,[]=>[]
 |k,b,n :: r=>(match pg k s with|true=>n|false=>b) :: aiW s (k+1) (b+1) r
def sK(an:ll)(st:St):List Nat:=
 match an.stay with
 |[]=>upto st.next an.aY.length
 |s=>match xT st an with
  |some ν=>aiW s 0 st.next ν
  |none=>[]
def Ol(an:ll)(st:St):Bool:=
 match an.stay with
 |[]=>φ
 |_=>nodupB (sK an st)&&(ab (sK an st).length an.aY.length&&(sK an st).all fun n=>ao n (st.next+an.aY.length))
def yU(b:Nat):List Ob->List Nat->List Nat->Bool
 |o :: os,u :: us,n :: ns=>(Nat.ble b u || (ab u n&&nL o o))&&yU b os us ns
 |_,[],_=>φ
 |_,_,_=>ψ
def Bu(an:ll)(st:St)(ν:List Nat):Bool:=
 match an.stay with
 |[]=>φ
 |_=>yU st.next an.aY (sK an st) ν
def gC(an:ll)(st:St)(us:List Nat)(x:an.X):St:=
 {env:=Bt an (an.pd x) us an.refs++C3 an st x,aK:=oB (jL an.aY (an.pd x) us) an.aY (an.pd x) us++rW an st x,next:=st.next+an.aY.length}
def lL(an:ll)(st:St)(x:an.X):St:=gC an st (sK an st) x
def ry(ν:List Nat):List (Nat×OC)->Bool
 |[]=>φ
 |(n,_) :: r =>!(pg n ν)&&ry ν r
def tQ(keep:List Nat):List (Nat×Nat)->Bool
 |[]=>φ
 |(t,_) :: r =>!(yT t keep)&&tQ keep r
def rX(an:ll)(st:St)(W:List Nat)(x:an.X):Bool:=lP st.next (C3 an st x)&&(lA st.next (rW an st x)&&(pL W (an.bB x)&&tQ an.keep an.refs))
def Om(st:St)(an:ll):ll:=
 {an with keep:=(Gp st.env an.keep).filter (fun t=>tQ [t] an.refs),gZ:=match an.gZ with
  |[]=>tP (an.dU++(match xT st an with|some l=>l|none=>[])) st.aK
  |l=>l}
def Gq(an:ll)(st st':St)(more:an.X->Prop):VC:=
 match xT st' an with
 |some ν=>match nodupB ν&&(xU st' an ν an.refs&&Bu an st ν),fI ψ st'.aK an.aY ν an.aY ν with
  |true,ξ y =>.leaf (Og (C2 st' an y an.refs++ky an.aY y st'.aK an.aY ν++[∃x',an.inv x'/\more x'/\oU st' (an.bB x')/\oV st' (an.aK x'++j9 st an.gZ)/\(ry ν (rW an st x')=φ/\y=an.pd x')]))
  |_,_ =>.ff
 |none =>.ff
def C4(cx:Cx)(ops:Array Oper)(draw:Bool)(st:St)(K:St->VC):VC:=
 match draw with
 |false=>Np cx ops.toList ops.toList st K
 |true=>match yL ops with
  |true=>aiL cx ops st fun st'=>K (canon st.next (eV ops.toList) st')
  |false =>.ff
def pM:Code->Nat->Nat
 |.region id _ _,_=>id
 |.seq a b,d=>pM a (pM b d)
 |.cond _ a b,d=>pM a (pM b d)
 |.block _ b,d=>pM b d
 |.loop b,d=>pM b d
 |_,d=>d
def vc(cx:Cx)(anns:cP):Code->Nat->St->(Ex->St->VC)->VC
 |.skip,_,st,K=>K .normal st
 |.region id ops draw,_,st,K=>match(look anns (id+300000)).map (fun f=>C1 st (f st))with
  |none=>C4 cx ops draw st (K .normal)
  |some an=>match wz an.keep (eV ops.toList)with
   |true =>.both (C4 cx ops draw st (nV an st))
    (.all an.X fun x =>.imp (an.inv x) (match lP st.next (cL an st x).env&&(lA st.next (cL an st x).aK&&pL (eV ops.toList) (an.bB x))with
     |true=>K .normal (cL an st x)
     |false =>.ff))
   |false =>.ff
 |.seq a b,cur,st,K=>vc cx anns a cur st fun e st'=>match e with
  |.normal=>vc cx anns b cur st' K
  |e=>K e st'
 |.cond c a b,cur,st,K=>match(look anns (pM a (pM b 0)+400000)).map (fun f=>C1 st (f st))with
  |none=>match fC st.env c with
   |.lit φ=>vc cx anns a cur st K
   |.lit ψ=>vc cx anns b cur st K
   |.d .bool g =>.ite g (vc cx anns a cur st K) (vc cx anns b cur st K)
   |_ =>.ff
  |some an=>match wz an.keep (writes anns cur (.cond c a b))with
   |true =>.both (match fC st.env c with
    |.lit φ=>vc cx anns a cur st fun e st'=>match e with
     |.normal=>nV an st st'
     |e=>K e st'
    |.lit ψ=>vc cx anns b cur st fun e st'=>match e with
     |.normal=>nV an st st'
     |e=>K e st'
    |.d .bool g =>.ite g (vc cx anns a cur st fun e st'=>match e with
     |.normal=>nV an st st'
     |e=>K e st') (vc cx anns b cur st fun e st'=>match e with
     |.normal=>nV an st st'
     |e=>K e st')
    |_ =>.ff)
    (.all an.X fun x =>.imp (an.inv x) (match lP st.next (cL an st x).env&&(lA st.next (cL an st x).aK&&pL (writes anns cur (.cond c a b)) (an.bB x))with
     |true=>K .normal (cL an st x)
     |false =>.ff))
   |false =>.ff
 |.block id b,_,st,K=>match(look anns (id+100000)).map (fun f=>C1 st (f st))with
  |none=>vc cx anns b id st fun e st'=>match e with
   |.exit i=>match ab i id with
    |true=>K .normal st'
    |false=>K (.exit i) st'
   |e=>K e st'
  |some an=>match wz an.keep (writes anns id b)with
   |true =>.both (vc cx anns b id st fun e st'=>match e with
    |.exit i=>match ab i id with
     |true=>nV an st st'
     |false=>K (.exit i) st'
    |.normal=>nV an st st'
    |.ret=>K .ret st')
    (.all an.X fun x =>.imp (an.inv x) (match lP st.next (cL an st x).env&&(lA st.next (cL an st x).aK&&pL (writes anns id b) (an.bB x))with
     |true=>K .normal (cL an st x)
     |false =>.ff))
   |false =>.ff
 |.loop b,cur,st,K=>match look anns (cur+200000)with
  |none=>match(look anns cur).map (fun f=>C1 st (f st))with
   |some an=>match wz an.keep (writes anns cur b)with
    |true =>.and (∃x,an.inv x/\oU st (an.bB x)/\oV st (an.aK x))
      (.all an.X fun x =>.imp (an.inv x) (match lP st.next (cL an st x).env&&(lA st.next (cL an st x).aK&&pL (writes anns cur b) (an.bB x))with
       |true=>vc cx anns b cur (cL an st x) fun e st'=>match e with
        |.normal=>match pK st'.env an.keep with
         |true =>.leaf (∃x',an.inv x'/\an.bG x'<an.bG x/\oU st' (an.bB x')/\oV st' (an.aK x'++j9 st an.gZ))
         |false =>.ff
        |e=>K e st'
       |false =>.ff))
    |false =>.ff
   |none =>.leaf (ahe cur st)
  |some f=>match Om st (f st)with
   |an=>match wz an.keep (writes anns cur b)with
    |true =>.both (Gq an st st fun _=>True)
      (.all an.X fun x =>.imp (an.inv x) (match rX an st (writes anns cur b) x&&Ol an st with
       |true=>vc cx anns b cur (lL an st x) fun e st'=>match e with
        |.normal=>match pK st'.env an.keep with
         |true=>Gq an st st' fun x'=>an.bG x'<an.bG x
         |false =>.ff
        |e=>K e st'
       |false =>.ff))
    |false =>.ff
 |.exit id,_,st,K=>K (.exit id) st
 |.ret,_,st,K=>K .ret st
 |_,_,_,_ =>.ff
section
variable{X:Ext}{P:Program}{cx:Cx}
def JQ{S:bT}{a b:C}{v:Value}(h:yS a b)(hv:CR cx.eT S a v):CR cx.eT S b v:=by
 unfold yS at h;split at h
 ·subst h;exact fW.2 hv
 ·split at h
  ·rename_i hb
   subst h;exact oy hb _ hv
  ·exact h.elim
 ·split at h
  ·rename_i t xs n t' ys m _ hb hn
   have hn:=ag hn;subst hn;have:t=t':=by have:=Ty.eq_of_beq hb;cases this;rfl
   subst this;rw[iH]at h;subst h;exact hv
  ·exact h.elim
 ·subst h;exact hv
def Gr{S:bT}{a b:SV}{v:Value}(h:qK a b)(hv:eK cx.eT S a v):eK cx.eT S b v:=by
 unfold qK at h;split at h
 ·exact JQ h hv
 ·subst h;exact hv
def Gs{S:bT}:∀{akH bs:List C} {vs:List Value},Bs akH bs->fH cx.eT S akH vs->fH cx.eT S bs vs:=by
 intro akH;induction akH with
 |nil=>
  intro bs vs h hv;cases bs with
  |nil=>exact hv
  |cons=>exact h.elim
 |cons a akH ih=>
  intro bs vs h hv;cases bs with
  |nil=>exact h.elim
  |cons b bs=>
   cases hv with
   |cons h1 h2 h3=>exact .cons (JQ h.1 h1) h2 (ih h.2 h3)
def Gt{S:bT}{l:Loc}{a b:OC}(h:pJ a b)(hv:OR cx.eT X S l a):OR cx.eT X S l b/\bL l l a b/\a.lo=b.lo:=by
 unfold pJ at h;split at h
 ·split at h
  ·rename_i hT
   have:=ag hT;subst this;obtain⟨b,vs,h1,h2,h3,h4⟩:=hv;exact⟨⟨b,vs,h1,h2,h3,Gs h h4⟩,rfl,rfl⟩
  ·exact h.elim
 ·split at h
  ·rename_i t xs t' ys hb
   have:t=t':=by have:=Ty.eq_of_beq hb;cases this;rfl
   subst this;rw[iH]at h;subst h;exact⟨hv,rfl,rfl⟩
  ·exact h.elim
 ·split at h
  ·rename_i t xs t' ys hb
   have:t=t':=by have:=Ty.eq_of_beq hb;cases this;rfl
   subst this;rw[iH]at h;subst h;exact⟨hv,rfl,rfl⟩
  ·exact h.elim
 ·split at h
  ·rename_i t xs t' ys hb
   have:t=t':=by have:=Ty.eq_of_beq hb;cases this;rfl
   subst this;rw[iH]at h;subst h;exact⟨hv,⟨rfl,ai _,fun _=>rfl⟩,rfl⟩
  ·exact h.elim
 ·split at h
  ·rename_i k t x k' t' y hk hb
   have:=ag hk;subst this;have:=Ty.eq_of_beq hb;subst this;rw[l7]at h;subst h;exact⟨hv,⟨rfl,rfl⟩,rfl⟩
  ·exact h.elim
 ·obtain⟨h1,rfl,rfl⟩:=h
  obtain⟨b,m,c,sn,k1,k2,k3,k4,k5,k6⟩:=hv;exact⟨⟨b,m,c,sn,k1,k2,k3,Gs h1 k4,k5,k6⟩,aa,rfl⟩
 ·exact h.elim
def yV{n:Nat}{l:List Nat}:yT n l=φ↔n∈l:=by
 induction l with
 |nil=>simp[yT]
 |cons m r ih=>
  simp only[yT,ah];by_cases h:m=n
  ·subst h;simp[bg]
  ·rw[qE h];simp only[ih]
   constructor
   ·exact .inr
   ·rintro(h'|h')
    ·exact absurd h'.symm h
    ·exact h'
def wA{l W:List Nat}(h:wz l W=φ):∀n∈l,allM∉W/\n∉W:=by
 intro n hn;unfold wz at h;split at h
 ·simp at hn
 ·simp only[ae,b3,bc]at h
  exact⟨fun hW=>by rw[yV.2 hW]at h;exact absurd h.1 δ,fun hW=>by have:=h.2 n hn;rw[yV.2 hW]at this;cases this⟩
def lB(cx:Cx)(X:Ext)(O:aO)(K:Ex->St->VC)(W:List Nat)(st:St)(S:bT):Exit->Act->World->Prop
 |.normal,a,w=>ir cx X O (K .normal) W st S a w
 |.exit n,a,w=>ir cx X O (K (.exit n)) W st S a w
 |.ret,a,w=>ir cx X O (K .ret) W st S a w
 |_,_,_=>False
def lB.mono{O:aO}{K:Ex->St->VC}{W W':List Nat}{st st1:St}{S S1:bT}{e:Exit}{a:Act}{w:World}(h:lB cx X O K W st1 S1 e a w)(ht:Tr S S1)(ha:qi W' st st1)(hW:∀n∈W,n∈W'):lB cx X O K W' st S e a w:=by
 have key:∀K:St->VC,ir cx X O K W st1 S1 a w->ir cx X O K W' st S a w:=by
  rintro K ⟨st',loc',k1,k2,k3,k4,k5⟩;exact⟨st',loc',k1,k2,ht.trans k3,k4,ha.trans fun hm t ht=>k5 (fun h=>hm (hW _ h)) t fun h=>ht (hW t h)⟩
 cases e with
 |normal=>exact key _ h
 |exit n=>exact key _ h
 |ret=>exact key _ h
 |goto l=>exact h
 |panic c=>exact h
 |outgrown=>exact h
def kd{st:St}{l:List Nat}{n:Nat}{v:SV}(h:look (qk st l) n=ξ v):n∈l/\look st.env n=ξ v:=by
 induction l with
 |nil=>simp[qk,look]at h
 |cons t r ih=>
  simp only[qk]at h;split at h
  ·rename_i u hu
   rw[cX]at h;by_cases e:t=n
   ·rw[π e]at h;cases h;subst e;exact⟨ς,hu⟩
   ·rw[ε e]at h;have:=ih h;exact⟨by simp[this.1],this.2⟩
  ·have:=ih h;exact⟨by simp[this.1],this.2⟩
def M6{st:St}{l:List Nat}{n:Nat}{v:OC}(h:look (j9 st l) n=ξ v):look st.aK n=ξ v:=by
 induction l with
 |nil=>simp[j9,look]at h
 |cons t r ih=>
  simp only[j9]at h;split at h
  ·rename_i u hu
   rw[cX]at h;by_cases e:t=n
   ·rw[π e]at h;cases h;subst e;exact hu
   ·rw[ε e]at h;exact ih h
  ·exact ih h
def qL{st:St}{l:List (Nat×SV)}(h:oU st l):∀{n v},look l n=ξ v->∃u,look st.env n=ξ u/\qK u v:=by
 induction l with
 |nil=>intro n v hl;simp[look]at hl
 |cons p r ih=>
  obtain⟨m,x⟩:=p;intro n v hl;simp only[oU]at h;split at h
  ·rename_i u hu
   rw[cX]at hl;by_cases e:m=n
   ·rw[π e]at hl;cases hl;subst e;exact⟨u,hu,h.1⟩
   ·rw[ε e]at hl;exact ih h.2 hl
  ·exact h.elim
def qM{st:St}{l:List (Nat×OC)}(h:oV st l):∀{n v},look l n=ξ v->∃u,look st.aK n=ξ u/\pJ u v:=by
 induction l with
 |nil=>intro n v hl;simp[look]at hl
 |cons p r ih=>
  obtain⟨m,x⟩:=p;intro n v hl;simp only[oV]at h;split at h
  ·rename_i u hu
   rw[cX]at hl;by_cases e:m=n
   ·rw[π e]at hl;cases hl;subst e;exact⟨u,hu,h.1⟩
   ·rw[ε e]at hl;exact ih h.2 hl
  ·exact h.elim
def dS{a b:Nat}(h:ao a b=φ):a<b:=oS h
def Wr{S S':bT}(hO:∀b o v,¬S.A b o->S.w.cell? ⟨b,o,χ⟩=ξ v->S'.w.cell? ⟨b,o,χ⟩=ξ v/\¬S'.A b o)(hloc:S'.loc=S.loc)
  (hob:∀n oc,S'.ob n=ξ oc->∃oc0,S.ob n=ξ oc0/\bL (S.loc n) (S.loc n) oc0 oc){c:C}{v:Value}(hb:tO S'.next c=φ)(hv:CR cx.eT S c v):CR cx.eT S' c v:=by
 cases c with
 |lit b=>exact hv
 |d t x=>exact VR.frame hv hO
 |app t xs n=>
  obtain⟨h1,h2,h3⟩:=hv;refine⟨VR.frame h1 hO,dS hb,fun ys hy =>?_⟩;obtain⟨oc0,k1,k2⟩:=hob n _ hy;cases oc0 <;> simp[bL]at k2;obtain⟨rfl,k3⟩:=k2;obtain⟨m1,m2⟩:=h3 _ k1;rw[hloc];exact⟨ω,fun e=>m2 ω⟩
 |l6=>exact hv
 |jx=>exact hv
 |emp=>exact hv
 |bD n=>
  refine⟨dS hb,fun t xs e =>?_⟩;obtain⟨oc0,k1,k2⟩:=hob n _ e;cases oc0 <;> simp[bL]at k2;rw[hloc];exact hv.2 _ _ k1
 |rE n t lo len=>
  refine⟨dS hb,fun xs e =>?_⟩;obtain⟨oc0,k1,k2⟩:=hob n _ e;cases oc0 <;> simp[bL]at k2;subst k2;rw[hloc];exact hv.2 _ k1
 |q8 n=>
  refine⟨dS hb,fun t xs e =>?_⟩;obtain⟨oc0,k1,k2⟩:=hob n _ e;cases oc0 <;> simp[bL]at k2;rw[hloc];exact hv.2 _ _ k1
 |fS n=>
  refine⟨dS hb,fun oc e hx =>?_⟩;obtain⟨oc0,k1,k2⟩:=hob n _ e;rw[hloc];exact hv.2 _ k1 (by cases oc0 <;> cases oc <;> first|rfl|exact k2.elim|cases hx)
 |xd n p=>
  refine⟨dS hb,fun t x e =>?_⟩;obtain⟨oc0,k1,k2⟩:=hob n _ e;cases oc0 <;> simp[bL]at k2;obtain⟨rfl,rfl⟩:=k2;rw[hloc];exact hv.2 _ _ k1
 |ref n off=>
  refine⟨dS hb,fun T cs e =>?_⟩;obtain⟨oc0,k1,k2⟩:=hob n _ e;cases oc0 <;> simp[bL]at k2;rw[hloc];exact hv.2 _ _ k1
 |vh n=>
  refine⟨dS hb,?_⟩;rcases hv.2 with hn|hn
  ·exact .inl hn
  ·refine .inr fun T cs e =>?_
   obtain⟨oc0,k1,k2⟩:=hob n _ e;cases oc0 <;> simp[bL]at k2;rw[hloc];exact hn _ _ k1
 |ox n t i off=>
  refine⟨dS hb,fun⟨xs,e⟩ =>?_⟩;rw[hloc];rcases e with e|e
  ·obtain⟨oc0,k1,k2⟩:=hob n _ e
   cases oc0 <;> simp[bL]at k2;subst k2;exact hv.2 ⟨_,.inl k1⟩
  ·obtain⟨oc0,k1,k2⟩:=hob n _ e
   cases oc0 <;> simp[bL]at k2;subst k2;exact hv.2 ⟨_,.inr k1⟩
 |q9 t x=>
  obtain⟨b,o,us,rfl,h1,h2⟩:=hv;exact⟨b,o,us,rfl,h1.frame hO,h2.frame hO⟩
 |fn f caps=>
  obtain⟨rfl,h2⟩:=hv;refine⟨by rw[hloc],fun n hn=>⟨?_,fun t ys e =>?_⟩⟩
  ·have:∀l:List Nat,mc S'.next l=φ->n∈l->n<S'.next:=by
    intro l;induction l with
    |nil=>intro _ h;simp at h
    |cons m r ih=>
     intro h hm;simp only[mc,ae]at h;rcases ah.1 hm with rfl|hm
     ·exact dS h.1
     ·exact ih h.2 hm
   exact this caps hb hn
  ·obtain⟨oc0,k1,k2⟩:=hob n _ e
   cases oc0 <;> simp[bL]at k2;exact(h2 n hn).2 _ _ k1
 |any=>trivial
def xV{k:Nat}:∀{l:List Nat} {n:Nat},mc k l=φ->n∈l->n<k
 |[],_,_,h=>by simp at h
 |m :: r,n,h,hn=>by
  simp only[mc,ae]at h;rcases ah.1 hn with e|hn
  ·rw[e];exact dS h.1
  ·exact xV h.2 hn
def vA{S S':bT}{k:Nat}(hrel:∀{c:C} {v:Value},tO k c=φ->CR cx.eT S c v->CR cx.eT S' c v):∀{cs:List C} {vs:List Value},rv k cs=φ->fH cx.eT S cs vs->fH cx.eT S' cs vs:=by
 intro cs;induction cs with
 |nil=>intro vs _ h;cases h;exact .nil
 |cons c cs ih=>
  intro vs hb h;simp only[rv,ae]at hb;cases h with
  |cons h1 h2 h3=>exact .cons (hrel hb.1 h1) h2 (ih hb.2 h3)
def Sg{S S':bT}(hO:∀b o v,¬S.A b o->S.w.cell? ⟨b,o,χ⟩=ξ v->S'.w.cell? ⟨b,o,χ⟩=ξ v/\¬S'.A b o){k:Nat}(hk:k<=S'.next)(hloc:∀n,n<k->S'.loc n=S.loc n)
  (hob:∀n oc,n<k->S'.ob n=ξ oc->∃oc0,S.ob n=ξ oc0/\bL (S.loc n) (S.loc n) oc0 oc){c:C}{v:Value}(hb:tO k c=φ)(hv:CR cx.eT S c v):CR cx.eT S' c v:=by
 cases c with
 |lit b=>exact hv
 |d t x=>exact VR.frame hv hO
 |app t xs n=>
  obtain⟨h1,h2,h3⟩:=hv;refine⟨VR.frame h1 hO,ay (dS hb) hk,fun ys hy =>?_⟩;obtain⟨oc0,k1,k2⟩:=hob n _ (dS hb) hy;cases oc0 <;> simp[bL]at k2;obtain⟨rfl,k3⟩:=k2;obtain⟨m1,m2⟩:=h3 _ k1;rw[hloc n (dS hb)];exact⟨ω,fun e=>m2 ω⟩
 |l6=>exact hv
 |jx=>exact hv
 |emp=>exact hv
 |bD n=>
  refine⟨ay (dS hb) hk,fun t xs e =>?_⟩;obtain⟨oc0,k1,k2⟩:=hob n _ (dS hb) e;cases oc0 <;> simp[bL]at k2;rw[hloc n (dS hb)];exact hv.2 _ _ k1
 |rE n t lo len=>
  refine⟨ay (dS hb) hk,fun xs e =>?_⟩;obtain⟨oc0,k1,k2⟩:=hob n _ (dS hb) e;cases oc0 <;> simp[bL]at k2;subst k2;rw[hloc n (dS hb)];exact hv.2 _ k1
 |q8 n=>
  refine⟨ay (dS hb) hk,fun t xs e =>?_⟩;obtain⟨oc0,k1,k2⟩:=hob n _ (dS hb) e;cases oc0 <;> simp[bL]at k2;rw[hloc n (dS hb)];exact hv.2 _ _ k1
 |fS n=>
  refine⟨ay (dS hb) hk,fun oc e hx =>?_⟩;obtain⟨oc0,k1,k2⟩:=hob n _ (dS hb) e;rw[hloc n (dS hb)];exact hv.2 _ k1 (by cases oc0 <;> cases oc <;> first|rfl|exact k2.elim|cases hx)
 |xd n p=>
  refine⟨ay (dS hb) hk,fun t x e =>?_⟩;obtain⟨oc0,k1,k2⟩:=hob n _ (dS hb) e;cases oc0 <;> simp[bL]at k2;obtain⟨rfl,rfl⟩:=k2;rw[hloc n (dS hb)];exact hv.2 _ _ k1
 |ref n off=>
  refine⟨ay (dS hb) hk,fun T cs e =>?_⟩;obtain⟨oc0,k1,k2⟩:=hob n _ (dS hb) e;cases oc0 <;> simp[bL]at k2;rw[hloc n (dS hb)];exact hv.2 _ _ k1
 |vh n=>
  refine⟨ay (dS hb) hk,?_⟩;rcases hv.2 with hn|hn
  ·exact .inl hn
  ·refine .inr fun T cs e =>?_
   obtain⟨oc0,k1,k2⟩:=hob n _ (dS hb) e;cases oc0 <;> simp[bL]at k2;rw[hloc n (dS hb)];exact hn _ _ k1
 |ox n t i off=>
  refine⟨ay (dS hb) hk,fun⟨xs,e⟩ =>?_⟩;rw[hloc n (dS hb)];rcases e with e|e
  ·obtain⟨oc0,k1,k2⟩:=hob n _ (dS hb) e
   cases oc0 <;> simp[bL]at k2;subst k2;exact hv.2 ⟨_,.inl k1⟩
  ·obtain⟨oc0,k1,k2⟩:=hob n _ (dS hb) e
   cases oc0 <;> simp[bL]at k2;subst k2;exact hv.2 ⟨_,.inr k1⟩
 |q9 t x=>
  obtain⟨b,o,us,rfl,h1,h2⟩:=hv;exact⟨b,o,us,rfl,h1.frame hO,h2.frame hO⟩
 |fn f caps=>
  obtain⟨rfl,h2⟩:=hv;have hlt:∀n∈caps,n<k:=fun n hn=>xV hb hn
  refine⟨by rw[show(caps.map fun n=>(S.loc n).v)=(caps.map fun n=>(S'.loc n).v)from dc fun n hn=>by rw[hloc n (hlt n hn)]],fun n hn=>⟨ay (hlt n hn) hk,fun t ys e =>?_⟩⟩;obtain⟨oc0,k1,k2⟩:=hob n _ (hlt n hn) e;cases oc0 <;> simp[bL]at k2;exact(h2 n hn).2 _ _ k1
 |any=>trivial
def bL.comp{l1 l2 l3:Loc}{a b c:OC}(h:bL l1 l2 a b)(h':bL l2 l3 b c):bL l1 l3 a c:=by
 cases a <;> cases b <;> simp[bL]at h <;> cases c <;> simp[bL]at h' ⊢
 all_goals (try(simp_all;done))
 obtain⟨rfl,a1,a2⟩:=h;obtain⟨rfl,b1,b2⟩:=h';refine⟨rfl,ω,fun e =>?_⟩;rw[b2 ω,a2 ω]
def xf{S S':bT}(hrel:∀{c:C} {v:Value},tO S'.next c=φ->CR cx.eT S c v->CR cx.eT S' c v):∀{cs:List C} {vs:List Value},rv S'.next cs=φ->fH cx.eT S cs vs->fH cx.eT S' cs vs:=by
 intro cs;induction cs with
 |nil=>intro vs _ h;cases h;exact .nil
 |cons c cs ih=>
  intro vs hb h;simp only[rv,ae]at hb;cases h with
  |cons h1 h2 h3=>exact .cons (hrel hb.1 h1) h2 (ih hb.2 h3)
def AH{k:Nat}:∀{l:List (Nat×SV)},lP k l=φ->∀{n v},look l n=ξ v->∃v0,v=.s v0/\Ok k v0=φ:=by
 intro l;induction l with
 |nil=>intro _ n v h;simp[look]at h
 |cons p r ih=>
  obtain⟨m,x⟩:=p;intro hb n v h;cases x with
  |pD vs=>simp[lP]at hb
  |s v0=>
   simp only[lP,ae]at hb;rw[cX]at h;by_cases e:m=n
   ·rw[π e]at h;cases h;exact⟨v0,rfl,hb.1⟩
   ·rw[ε e]at h;exact ih hb.2 h
def ql{k:Nat}:∀{l:List (Nat×OC)},lA k l=φ->∀{n v},look l n=ξ v->n<k/\Um k v=φ:=by
 intro l;induction l with
 |nil=>intro _ n v h;simp[look]at h
 |cons p r ih=>
  obtain⟨m,x⟩:=p;intro hb n v h;simp only[lA,ae]at hb;rw[cX]at h;by_cases e:m=n
  ·rw[π e]at h;cases h;subst e;exact⟨dS hb.1.1,hb.1.2⟩
  ·rw[ε e]at h;exact ih hb.2 h
def yW{an:ll}{O:aO}{st st':St}{loc loc0:Nat->Loc}{w w0:World}{a:Act}(x:an.X)(g:Good cx.eT X (aD O st' loc w))(hA:hZ cx (aD O st' loc w) st' a)(ht:Tr (aD O st loc0 w0) (aD O st' loc w))
  (he:∀n v,look (cL an st x).env n=ξ v->∃u,look st'.env n=ξ u/\qK u v)
  (ho:∀n v,look (cL an st x).aK n=ξ v->∃u,look st'.aK n=ξ u/\pJ u v)
  (hb1:lP st.next (cL an st x).env=φ)(hb2:lA st.next (cL an st x).aK=φ) :
  Good cx.eT X (aD O (cL an st x) loc w)/\hZ cx (aD O (cL an st x) loc w) (cL an st x) a/\Tr (aD O st loc0 w0) (aD O (cL an st x) loc w):=by
 have hob:∀n oc,look (cL an st x).aK n=ξ oc->∃oc0,look st'.aK n=ξ oc0/\bL (loc n) (loc n) oc0 oc/\oc0.lo=oc.lo/\OR cx.eT X (aD O st' loc w) (loc n) oc:=by
  intro n oc h;obtain⟨u,hu,hs⟩:=ho n oc h;obtain⟨h1,h2,h3⟩:=Gt hs (g.obj n u hu).2;exact⟨u,hu,h2,h3,h1⟩
 have hAsub:∀b o,(aD O (cL an st x) loc w).A b o->(aD O st' loc w).A b o:=by
  rintro b o (h|⟨n,oc,h1,h2,h3⟩)
  ·exact .inl h
  ·obtain⟨oc0,k1,_,k3,_⟩:=hob n oc h1
   exact .inr ⟨n,oc0,k1,h2,by rw[k3];exact h3⟩
 have hcell:∀b o v,¬(aD O st' loc w).A b o->w.cell? ⟨b,o,χ⟩=ξ v->w.cell? ⟨b,o,χ⟩=ξ v/\¬(aD O (cL an st x) loc w).A b o:=fun b o v h1 h2=>⟨h2,fun h=>h1 (hAsub b o h)⟩
 have hrel:∀{c:C} {v:Value},tO st.next c=φ->CR cx.eT (aD O st' loc w) c v->CR cx.eT (aD O (cL an st x) loc w) c v:=fun hb hv=>
  Wr (S:=aD O st' loc w) (S':=aD O (cL an st x) loc w) hcell rfl (fun n oc h=>let⟨oc0,k1,k2,_⟩:=hob n oc h;⟨oc0,k1,k2⟩) hb hv
 have hor:∀n oc,look (cL an st x).aK n=ξ oc->OR cx.eT X (aD O (cL an st x) loc w) (loc n) oc:=by
  intro n oc h;obtain⟨_,_,_,_,k4⟩:=hob n oc h;have hb:=(ql hb2 h).2;cases oc with
  |cells T cs=>
   obtain⟨b,vs,h1,h2,h3,h4⟩:=k4;exact⟨b,vs,h1,h2,h3,xf hrel hb h4⟩
  |bD t xs=>
   rcases k4 with k4|⟨b,vs,T,cap,h1,h2,h3,h4,h5,h6,h7⟩
   ·exact .inl k4
   ·exact .inr ⟨b,vs,T,cap,h1,h2,h3,h4,h5,h6,fun i y hy=>let⟨us,r1,r2⟩:=h7 i y hy;⟨us,r1.frame hcell,r2⟩⟩
  |arr t xs=>
   obtain⟨b,vs,T,h1,h2,h3,h4,h5⟩:=k4;exact⟨b,vs,T,h1,h2,h3,h4,fun i y hy=>let⟨us,r1,r2⟩:=h5 i y hy;⟨us,r1.frame hcell,r2⟩⟩
  |tok t xs=>
   rcases k4 with k4|⟨b,vs,T,cap,h1,h2,h3,h4,h5,h6,h7⟩
   ·exact .inl k4
   ·exact .inr ⟨b,vs,T,cap,h1,h2,h3,h4,h5,h6,fun i y hy=>let⟨us,r1,r2⟩:=h7 i y hy;⟨us,r1.frame hcell,r2⟩⟩
  |ext k t x=>exact k4
  |iter cs seen cl=>obtain⟨b,m,c,sn,k1,k2,k3,k4,k5⟩:=k4;exact⟨b,m,c,sn,k1,k2,k3,xf hrel hb k4,k5⟩
 refine⟨⟨fun n oc h=>⟨(ql hb2 h).1,hor n oc h⟩,fun n m oc oc' b h1 h2 h3 h4 =>?_,fun n oc b off h1 h2 =>?_,g.nw.sub rfl fun b ⟨n,oc,h1,h2⟩=>by obtain⟨oc0,k1,_⟩:=hob n oc h1;exact⟨n,oc0,k1,h2⟩⟩,⟨hA.size,hA.defers,fun n v h =>?_⟩,?_⟩
 ·obtain⟨oc0,k1,_⟩:=hob n oc h1
  obtain⟨oc0',k1',_⟩:=hob m oc' h2;exact g.apart n m oc0 oc0' b k1 k1' h3 h4
 ·obtain⟨oc0,k1,_⟩:=hob n oc h1
  exact g.out n oc0 b off k1 h2
 ·obtain⟨u,hu,hs⟩:=he n v h
  have hv:=Gr hs (hA.env n u hu);obtain⟨v0,rfl,hb⟩:=AH hb1 h;cases v0 with
  |one c=>exact hrel hb hv
  |agg cs=>obtain⟨vs,h1,h2⟩:=hv;exact⟨vs,h1,xf hrel hb h2⟩
 ·refine{O:=ht.O,next:=ai _,os:=ht.os,output:=ht.output,size:=ht.size,own:=fun b hb =>?_,cell:=fun b o v h1 h2 =>?_,block:=ht.block,loc:=ht.loc,kind:=fun n oc hn h =>?_}
  ·obtain⟨n,oc,h1,h2⟩:=hb
   obtain⟨oc0,k1,_⟩:=hob n oc h1;exact ht.own b ⟨n,oc0,k1,h2⟩
  ·obtain⟨k1,k2⟩:=ht.cell b o v h1 h2
   exact⟨k1,fun h=>k2 (hAsub b o h)⟩
  ·obtain⟨oc0,k1,k2,_⟩:=hob n oc h
   obtain⟨oc1,m1,m2⟩:=ht.kind n oc0 hn k1;exact⟨oc1,m1,m2.comp k2⟩
def Ty.beq_refl:∀t:Ty,Ty.beq t t=φ:=by
 intro t;induction t with
 |prod a b iha ihb=>simp[Ty.beq,iha,ihb]
 |slice e ih=>simp[Ty.beq,ih]
 |int k=>simp[Ty.beq]
 |_=>rfl
def Gu(c:C):yS c c:=by
 cases c with
 |d t x=>
  simp only[yS];split
  ·rfl
  ·rename_i h;rw[Ty.beq_refl]at h;cases h
 |app t xs n=>
  simp only[yS];split
  ·rfl
  ·rename_i h;exact(h (Ty.beq_refl _) (bg _)).elim
 |_=>rfl
def me(v:SV):qK v v:=by
 cases v with
 |s v=>
  cases v with
  |one c=>exact Gu c
  |agg cs=>rfl
 |pD vs=>rfl
def xg:∀cs:List C,Bs cs cs
 |[]=>trivial
 |c :: cs=>⟨Gu c,xg cs⟩
def Si(v:OC):pJ v v:=by
 cases v with
 |cells T cs=>
  simp only[pJ,bg];exact xg cs
 |bD t xs=>
  simp only[pJ];split
  ·rfl
  ·rename_i h;rw[Ty.beq_refl]at h;cases h
 |arr t xs=>
  simp only[pJ];split
  ·rfl
  ·rename_i h;rw[Ty.beq_refl]at h;cases h
 |tok t xs=>
  simp only[pJ];split
  ·rfl
  ·rename_i h;rw[Ty.beq_refl]at h;cases h
 |ext k t x=>
  simp only[pJ];split
  ·rfl
  ·rename_i h;exact(h (bg _) (Ty.beq_refl _)).elim
 |iter cs seen cl=>exact⟨xg cs,rfl,rfl⟩
def tq{W:List Nat}:∀{l:List (Nat×SV)},pL W l=φ->∀{n v},look l n=ξ v->n∈W:=by
 intro l;induction l with
 |nil=>intro _ n v h;simp[look]at h
 |cons p r ih=>
  obtain⟨m,x⟩:=p;intro hb n v h;simp only[pL,ae]at hb;rw[cX]at h;by_cases e:m=n
  ·subst e;exact yV.1 hb.1
  ·rw[ε e]at h;exact ih hb.2 h
def qW{env:List (Nat×SV)}:∀{l:List Nat},pK env l=φ->∀{n},n∈l->∃v,look env n=ξ v:=by
 intro l;induction l with
 |nil=>intro _ n h;simp at h
 |cons t r ih=>
  intro hb n h;simp only[pK]at hb;split at hb
  ·rename_i u hu
   rcases ah.1 h with rfl|h
   ·exact⟨u,hu⟩
   ·exact ih hb h
  ·cases hb
def ahf{O:aO}{K:Ex->St->VC}{W:List Nat}{st:St}{S:bT}{next:Act->World->Prop}{Q:Exit->Act->World->Prop}{K':Ex->St->VC}
  (hn:∀a w,ir cx X O (K' .normal) W st S a w->next a w)(hK:∀e,e≠.normal->K' e=K e)(hQ:∀e a w,lB cx X O K W st S e a w->e≠.normal->Q e a w){e:Exit}{a:Act}{w:World}
  (h:lB cx X O K' W st S e a w):Exit.then next Q e a w:=by
 cases e with
 |normal=>exact hn a w h
 |exit n=>exact hQ _ _ _ (by simpa[lB,hK (.exit n) ς]using h) ς
 |ret=>exact hQ _ _ _ (by simpa[lB,hK .ret ς]using h) ς
 |goto l=>exact h.elim
 |panic c=>exact h.elim
 |outgrown=>exact h.elim
structure On (an:ll) (st st':St) (x:an.X) (ν:List Nat):Prop where
 nodup:nodupB ν=φ
 refs:xU st' an ν an.refs=φ
 get:fI ψ st'.aK an.aY ν an.aY ν=ξ (an.pd x)
 akl:∀p∈C2 st' an (an.pd x) an.refs,p
 conds:∀p∈ky an.aY (an.pd x) st'.aK an.aY ν,p
 env:oU st' (an.bB x)
 aK:oV st' (rW an st x)
 out:ry ν (rW an st x)=φ
def JR{an:ll}{st st':St}{more:an.X->Prop}(h:(Gq an st st' more).holds):∃x,an.inv x/\more x/\∃ν,On an st st' x ν/\Bu an st ν=φ:=by
 unfold Gq at h;split at h
 ·rename_i ν _
  split at h
  ·rename_i y hc hy
   simp only[ae]at hc;have hall:=yQ h;obtain⟨x,h1,h2,h3,h4,h5,h6⟩:=hall (∃x',an.inv x'/\more x'/\oU st' (an.bB x')/\oV st' (an.aK x'++j9 st an.gZ)/\(ry ν (rW an st x')=φ/\y=an.pd x')) (List.mem_append_right _ (List.mem_singleton.2 rfl));subst h6;obtain⟨k1,_⟩:=lf.1 hall;obtain⟨k1,k2⟩:=lf.1 k1;exact⟨x,h1,h2,ν,⟨hc.1,hc.2.1,hy,k1,k2,h3,h4,h5⟩,hc.2.2⟩
  ·exact h.elim
 ·exact h.elim
def Bv{ν:List Nat}:∀{l:List (Nat×OC)},ry ν l=φ->∀{n v},look l n=ξ v->n∉ν
 |[],_,n,v,h=>by simp[look]at h
 |(m,u) :: r,hk,n,v,h=>by
  simp only[ry,ae,bc]at hk;rw[cX]at h;split at h
  ·rename_i e;subst e
   intro hm;rw[E3.2 hm]at hk;exact absurd hk.1 δ
  ·exact Bv hk.2 h
def tt{an:ll}{y:PD an.aY}{us:List Nat}:∀{l:List (Nat×Nat)} {t:Nat} {v:SV},look (Bt an y us l) t=ξ v->∃k,(t,k)∈l/\v=.s (.one (jL an.aY y us k))
 |[],t,v,h=>by simp[Bt,look]at h
 |(m,k) :: r,t,v,h=>by
  simp only[Bt,cX]at h;split at h
  ·rename_i e;subst e;cases h;exact⟨k,ς,rfl⟩
  ·obtain⟨k',h1,h2⟩:=tt h;exact⟨k',by simp[h1],h2⟩
def Gv{st:St}{an:ll}{ν:List Nat}:∀{l:List (Nat×Nat)} {t k:Nat},xU st an ν l=φ->(t,k)∈l->∃c,look st.env t=ξ (.s (.one c))/\ml ψ st.aK an.aY ν k c=φ
 |[],_,_,_,h=>by simp at h
 |(m,i) :: r,t,k,h,hm=>by
  simp only[xU,ae]at h;rcases ah.1 hm with e|hm
  ·cases e
   obtain⟨h1,_⟩:=h;split at h1
   ·rename_i c hc;exact⟨c,hc,h1⟩
   ·cases h1
  ·exact Gv h.2 hm
def JS{st:St}{an:ll}{y:PD an.aY}:∀{l:List (Nat×Nat)} {t k:Nat} {c:C},(∀p∈C2 st an y l,p)->(t,k)∈l->look st.env t=ξ (.s (.one c))->∀p∈xc an.aY y k c,p
 |[],_,_,_,_,h,_=>by simp at h
 |(m,i) :: r,t,k,c,h,hm,hl=>by
  simp only[C2]at h;obtain⟨h1,h2⟩:=lf.1 h;rcases ah.1 hm with e|hm
  ·cases e
   rw[hl]at h1;exact h1
  ·exact JS h2 hm hl
def yX{keep:List Nat}:∀{l:List (Nat×Nat)} {t k:Nat},tQ keep l=φ->(t,k)∈l->t∉keep
 |[],_,_,_,h=>by simp at h
 |(m,i) :: r,t,k,h,hm=>by
  simp only[tQ,ae,bc]at h;rcases ah.1 hm with e|hm
  ·cases e
   intro hk;rw[yV.2 hk]at h;exact absurd h.1 δ
  ·exact yX h.2 hm
def JT{aK:List (Nat×OC)}{aY:List Ob}{ν:List Nat}{o:Ob}{y:OD o}{oc:OC}{f:Nat->C}{l:Loc}(hk:nL o o=φ)(h:l9 ψ aK aY ν o oc=ξ y):bL l l oc (um f o y):=by
 cases o with
 |box T cls=>obtain⟨cs,rfl⟩:=(ot h (fun _ =>.any)).1 _ _ rfl;rfl
 |row k t=>
  obtain⟨xs,rfl⟩:=(ot h (fun _ =>.any)).2.2.1 _ _ rfl rfl;cases k with
  |true=>rfl
  |false=>cases hk
 |tok t=>cases hk
 |ext k t=>obtain⟨x,rfl⟩:=(ot h (fun _ =>.any)).2.1 _ _ rfl;exact⟨rfl,rfl⟩
def JU{an:ll}{O:aO}{st st':St}{loc loc0:Nat->Loc}{w w0:World}{a:Act}{W us ν:List Nat}(x:an.X)(hus:nodupB us=φ)(husl:us.length=an.aY.length)(husm:∀n∈us,n<st.next+an.aY.length)(hsel:∀(i m:Nat),us[i]?=ξ m->st.next<=m\/(ν[i]?=ξ m/\∃o,an.aY[i]?=ξ o/\nL o o=φ))(g:Good cx.eT X (aD O st' loc w))(hA:hZ cx (aD O st' loc w) st' a)(ht:Tr (aD O st loc0 w0) (aD O st' loc w))
  (hok:rX an st W x=φ)(hkeep:∀n∈an.keep,∀v,look st.env n=ξ v->∃u,look st'.env n=ξ u/\qK u v)(hf:On an st st' x ν) :
  ∃loc',Good cx.eT X (aD O (gC an st us x) loc' w)/\hZ cx (aD O (gC an st us x) loc' w) (gC an st us x) a/\Tr (aD O st loc0 w0) (aD O (gC an st us x) loc' w):=by
 simp only[rX,ae]at hok;obtain⟨hb1,hb2,hkeys,hnr⟩:=hok;have hlen:ν.length=us.length:=by rw[husl];exact(rV hf.get).symm
 let loc':=gR us (ν.map loc) loc
 have hkept:∀(i n:Nat),n<st.next->us[i]?=ξ n->ν[i]?=ξ n/\∃o,an.aY[i]?=ξ o/\nL o o=φ:=fun i n hn hi=>(hsel i n hi).resolve_left ω
 have hlow:∀n,n<st.next->loc' n=loc n:=fun n hn=>by
  by_cases hm:n∈us
  ·obtain⟨i,hi⟩:=List.getElem?_of_mem hm
   exact mY hus hi (by simp[(hkept i n hn hi).1])
  ·exact ru hm
 have hrest:∀m oc,look (rW an st x) m=ξ oc->m<st.next/\m∉ν/\∃u,look st'.aK m=ξ u/\bL (loc m) (loc m) u oc/\u.lo=oc.lo/\OR cx.eT X (aD O st' loc w) (loc m) oc:=by
  intro m oc hm;obtain⟨u,hu,hs⟩:=qM hf.aK hm;obtain⟨h1,h2,h3⟩:=Gt hs (g.obj m u hu).2;exact⟨(ql hb2 hm).1,Bv hf.out hm,u,hu,h2,h3,h1⟩
 have hob:∀m oc,look (gC an st us x).aK m=ξ oc->(∃(i n:Nat) (o:Ob) (y:OD o) (oc0:OC),ν[i]?=ξ n/\us[i]?=ξ m/\an.aY[i]?=ξ o/\look st'.aK n=ξ oc0/\l9 ψ st'.aK an.aY ν o oc0=ξ y/\
   oc=um (jL an.aY (an.pd x) us) o y/\loc' m=loc n)\/(m∉us/\look (rW an st x) m=ξ oc/\loc' m=loc m):=by
  intro m oc hm;simp only[gC,fT]at hm;split at hm
  ·rename_i oc' hm'
   cases hm;obtain⟨i,n,o,y,oc0,k1,k2,k3,k4,k5,k6,_⟩:=uJ hf.get (uI (X:=X) g hf.get hf.get hf.conds) hlen hm';exact .inl ⟨i,n,o,y,oc0,k1,k2,k3,k4,k5,k6,mY hus k2 (by simp[k1])⟩
  ·rename_i hm'
   have hnin:m∉us:=fun hmem=>by
    obtain⟨oc1,h2⟩:=tM (f:=jL an.aY (an.pd x) us) (x:=an.pd x) husl.symm hmem;rw[h2]at hm';cases hm'
   exact .inr ⟨hnin,hm,ru hnin⟩
 have hAsub:∀b o,(aD O (gC an st us x) loc' w).A b o->(aD O st' loc w).A b o:=by
  rintro b off (h|⟨m,oc,h1,h2,h3⟩)
  ·exact .inl h
  ·rcases hob m oc h1 with⟨i,n,o,y,oc0,k1,k2,k3,k4,k5,k6,k7⟩|⟨k1,k2,k3⟩
   ·refine .inr ⟨n,oc0,k4,by simp only[aD]at h2;rw[k7]at h2;exact h2,?_⟩
    rcases IX (f:=jL an.aY (an.pd x) us) k5 with e|e
    ·rw[<-e,<-k6];exact h3
    ·cases e
   ·obtain⟨_,_,u,hu,_,hlo,_⟩:=hrest m oc k2
    exact .inr ⟨m,u,hu,by simp only[aD]at h2;rw[k3]at h2;exact h2,by rw[hlo];exact h3⟩
 have hcell:∀b o v,¬(aD O st' loc w).A b o->w.cell? ⟨b,o,χ⟩=ξ v->w.cell? ⟨b,o,χ⟩=ξ v/\¬(aD O (gC an st us x) loc' w).A b o:=fun b o v h1 h2=>⟨h2,fun h=>h1 (hAsub b o h)⟩
 have hrel:∀{c:C} {v:Value},tO st.next c=φ->CR cx.eT (aD O st' loc w) c v->CR cx.eT (aD O (gC an st us x) loc' w) c v:=fun hb hv=>
  Sg (S:=aD O st' loc w) (S':=aD O (gC an st us x) loc' w) (k:=st.next) hcell (by simp[aD,gC]) (fun n hn=>hlow n hn) (fun n oc hn h=>by
   rcases hob n oc h with⟨i,n',o,y,oc0,k1,k2,k3,k4,k5,k6,_⟩|⟨k1,k2,k3⟩
   ·obtain⟨e1,o',e2,e3⟩:=hkept i n hn k2
    rw[k1]at e1;cases e1;rw[k3]at e2;cases e2;exact⟨oc0,k4,by rw[k6];exact JT e3 k5⟩
   ·obtain⟨_,_,u,hu,hk,_,_⟩:=hrest n oc k2
    exact⟨u,hu,hk⟩) hb hv
 obtain⟨gN,laid⟩:=Wo (X:=X) g hf.get hf.conds hf.nodup (O2:=O) (ν2:=us) (rest:=rW an st x) (locR:=loc) (st2:=gC an st us x) hus hlen (by simp only[gC])
  (fun n hn=>by have:=husm n hn;simp only[gC];exact this)
  (fun n hn b hb off h=>by
   obtain⟨_,oc,_,_,k,_⟩:=o6 hf.get hn;exact g.out n oc b off k hb h)
  (fun n hn b hb m oc h1 h2 h3=>by
   obtain⟨_,oc0,_,_,k,_⟩:=o6 hf.get hn;obtain⟨_,hmν,u,hu,_⟩:=hrest m oc h1;have:=g.apart n m oc0 u b k hu hb h3;exact hmν (by rw[<-this];exact hn))
  (fun m oc h1 h2=>by
   obtain⟨hm,_,u,hu,hk,hlo,hor⟩:=hrest m oc h1;refine⟨by simp only[gC];omega,?_⟩;have hb:=(ql hb2 h1).2;cases oc with
   |cells T cs=>
    obtain⟨b,vs,h1,h2,h3,h4⟩:=hor;exact⟨b,vs,h1,h2,h3,vA (k:=st.next) hrel hb h4⟩
   |bD t xs=>exact Oj.to (S:=aD O st' loc w) (S':=aD O (gC an st us x) loc' w) rfl (.inr hAsub) hor
   |tok t xs=>exact Oj.to (X:=X) (S:=aD O st' loc w) (S':=aD O (gC an st us x) loc' w) (l:=loc m) rfl (.inr hAsub) hor
   |arr t xs=>
    obtain⟨b,vs,T,h1,h2,h3,h4,h5⟩:=hor;exact⟨b,vs,T,h1,h2,h3,h4,fun i y hy=>let⟨us,r1,r2⟩:=h5 i y hy;⟨us,r1.frame hcell,r2⟩⟩
   |ext k t x=>exact hor
   |iter cs seen cl=>obtain⟨b,m,c,sn,k1,k2,k3,k4,k5⟩:=hor;exact⟨b,m,c,sn,k1,k2,k3,vA (k:=st.next) hrel hb k4,k5⟩)
  (fun m m' oc oc' b h1 h2 _ _ h3 h4=>by
   obtain⟨_,_,u,hu,_⟩:=hrest m oc h1;obtain⟨_,_,u',hu',_⟩:=hrest m' oc' h2;exact g.apart m m' u u' b hu hu' h3 h4)
  (fun m oc b off h1 _ h2=>by
   obtain⟨_,_,u,hu,_⟩:=hrest m oc h1;exact g.out m u b off hu h2)
  (.inr hAsub)
  (fun b hb ⟨m,oc,h1,h2⟩=>by
   rcases hob m oc h1 with⟨i,n,o,y,oc0,k1,k2,k3,k4,k5,k6,k7⟩|⟨k1,k2,k3⟩
   ·refine g.nw.2 b hb ⟨n,oc0,k4,?_⟩
    have e:gR us (ν.map loc) loc m=loc n:=k7;simp only[aD]at h2;rw[e]at h2;exact h2
   ·obtain⟨_,_,u,hu,_⟩:=hrest m oc k2
    have e:gR us (ν.map loc) loc m=loc m:=k3;refine g.nw.2 b hb ⟨m,u,hu,?_⟩;simp only[aD]at h2;rw[e]at h2;exact h2)
 refine⟨loc',gN,⟨hA.size,hA.defers,fun t sv hl =>?_⟩,?_⟩
 ·simp only[gC,fT]at hl
  split at hl
  ·rename_i v hv
   cases hl;obtain⟨k,hk,rfl⟩:=tt hv;obtain⟨c,hc,hs⟩:=Gv hf.refs hk;have hcv:CR cx.eT (aD O st' loc w) c (a.tmps.getD t undef):=hA.env t _ hc;exact Gn laid (IW g hcv hf.get hs (JS hf.akl hk hc))
  ·have hl2:look (C3 an st x) t=ξ sv:=hl
   have hst:∃u,look st'.env t=ξ u/\qK u sv:=by
    simp only[C3,fT]at hl2;split at hl2
    ·rename_i v hv;cases hl2;exact qL hf.env hv
    ·obtain⟨h1,h2⟩:=kd hl2;exact hkeep t h1 sv h2
   obtain⟨u,hu,hs⟩:=hst;have hv:=Gr hs (hA.env t u hu);obtain⟨v0,rfl,hb⟩:=AH hb1 hl2;cases v0 with
   |one c=>exact hrel hb hv
   |agg cs=>obtain⟨vs,h1,h2⟩:=hv;exact⟨vs,h1,vA (k:=st.next) hrel hb h2⟩
 ·refine{O:=ht.O,next:=by simp[aD,gC],os:=ht.os,output:=ht.output,size:=ht.size,own:=fun b hb =>?_,cell:=fun b o v h1 h2 =>?_,block:=ht.block,loc:=fun n hn hfx =>?_,kind:=fun n oc hn h =>?_}
  ·obtain⟨m,oc,h1,h2⟩:=hb
   rcases hob m oc h1 with⟨i,n,o,y,oc0,k1,k2,k3,k4,k5,k6,k7⟩|⟨k1,k2,k3⟩
   ·exact ht.own b ⟨n,oc0,k4,by simp only[aD]at h2;rw[k7]at h2;exact h2⟩
   ·obtain⟨_,_,u,hu,_⟩:=hrest m oc k2
    exact ht.own b ⟨m,u,hu,by simp only[aD]at h2;rw[k3]at h2;exact h2⟩
  ·obtain⟨k1,k2⟩:=ht.cell b o v h1 h2
   exact⟨k1,fun h=>k2 (hAsub b o h)⟩
  ·show(loc' n).v=_/\(_->loc' n=_)
   rw[hlow n hn];exact ht.loc n hn hfx
  ·rcases hob n oc h with⟨i,n',o,y,oc0,k1,k2,k3,k4,k5,k6,_⟩|⟨k1,k2,k3⟩
   ·obtain⟨e1,o',e2,e3⟩:=hkept i n hn k2
    rw[k1]at e1;cases e1;rw[k3]at e2;cases e2;obtain⟨oc1,m1,m2⟩:=ht.kind n oc0 hn k4;refine⟨oc1,m1,?_⟩;show bL _ (loc' n) _ _;rw[hlow n hn,k6];exact m2.comp (JT e3 k5)
   ·obtain⟨_,_,u,hu,hk,_,_⟩:=hrest n oc k2
    obtain⟨oc1,m1,m2⟩:=ht.kind n u hn hu;refine⟨oc1,m1,?_⟩;show bL _ (loc' n) _ _;rw[hlow n hn];exact m2.comp hk
def adV{an:ll}{st:St}(h:Ol an st=φ):nodupB (sK an st)=φ/\(sK an st).length=an.aY.length/\∀n∈sK an st,n<st.next+an.aY.length:=by
 unfold Ol at h;split at h
 ·rename_i hs
  have e:sK an st=upto st.next an.aY.length:=by unfold sK;rw[hs]
  rw[e];exact⟨mZ _ _,yR _ _,fun n hn=>(vz hn).2⟩
 ·simp only[ae,b3]at h
  exact⟨h.1,ag h.2.1,fun n hn=>by have:=h.2.2 n hn;simpa[Nat.blt_eq]using this⟩
def JV{b:Nat}:∀{aY:List Ob} {us ν:List Nat} {i m:Nat},yU b aY us ν=φ->us[i]?=ξ m->b<=m\/(ν[i]?=ξ m/\∃o,aY[i]?=ξ o/\nL o o=φ)
 |_,[],_,_,_,_,h=>by simp at h
 |[],_ :: _,_,_,_,h,_=>by simp[yU]at h
 |_ :: _,_ :: _,[],_,_,h,_=>by simp[yU]at h
 |o :: os,u :: us,n :: ns,0,m,h,hm=>by
  simp at hm;subst hm;simp only[yU,ae,cg]at h;rcases h.1 with h1|h1
  ·exact .inl (dd h1)
  ·exact .inr ⟨by simp[ag h1.1],o,ς,h1.2⟩
 |o :: os,u :: us,n :: ns,i+1,m,h,hm=>by
  simp only[yU,ae]at h;simpa using JV h.2 (by simpa using hm)
def adW{an:ll}{st:St}{ν:List Nat}(h:Bu an st ν=φ)(i m:Nat)(hm:(sK an st)[i]?=ξ m):st.next<=m\/(ν[i]?=ξ m/\∃o,an.aY[i]?=ξ o/\nL o o=φ):=by
 unfold Bu at h;split at h
 ·rename_i hs
  have e:sK an st=upto st.next an.aY.length:=by unfold sK;rw[hs]
  rw[e]at hm;exact .inl (vz (ax hm)).1
 ·exact JV h hm
def JW{an:ll}{O:aO}{st st':St}{loc loc0:Nat->Loc}{w w0:World}{a:Act}{W:List Nat}(x:an.X)(g:Good cx.eT X (aD O st' loc w))(hA:hZ cx (aD O st' loc w) st' a)(ht:Tr (aD O st loc0 w0) (aD O st' loc w))
  (hok:rX an st W x=φ)(hus:Ol an st=φ)(hkeep:∀n∈an.keep,∀v,look st.env n=ξ v->∃u,look st'.env n=ξ u/\qK u v)(hf:∃ν,On an st st' x ν/\Bu an st ν=φ) :
  ∃loc',Good cx.eT X (aD O (lL an st x) loc' w)/\hZ cx (aD O (lL an st x) loc' w) (lL an st x) a/\Tr (aD O st loc0 w0) (aD O (lL an st x) loc' w):=by
 obtain⟨ν,hf,hs⟩:=hf;obtain⟨u1,u2,u3⟩:=adV hus;exact JU x u1 u2 u3 (adW hs) g hA ht hok hkeep hf
def Wt{an:ll}{st:St}{W:List Nat}{x:an.X}(hok:rX an st W x=φ){n:Nat}(hn:n∈an.keep){v:SV}(h:look (lL an st x).env n=ξ v)(hW:n∉W):look st.env n=ξ v:=by
 simp only[rX,ae]at hok;obtain⟨_,_,hkeys,hnr⟩:=hok;simp only[lL,gC,C3,fT]at h;split at h
 ·rename_i u hu
  obtain⟨k,hk,_⟩:=tt hu;exact absurd hn (yX hnr hk)
 ·split at h
  ·rename_i u hu;exact absurd (tq hkeys hu) hW
  ·exact(kd h).2
def JX{O:aO}{st:St}{loc:Nat->Loc}{w:World}{an:ll}{W:List Nat}{K:St->VC}(hdis:wz an.keep W=φ)
  (hk:(VC.all an.X fun x =>.imp (an.inv x) (match lP st.next (cL an st x).env&&(lA st.next (cL an st x).aK&&pL W (an.bB x))with
     |true=>K (cL an st x)
     |false =>.ff)).holds){a':Act}{w':World}:ir cx X O (nV an st) W st (aD O st loc w) a' w'->ir cx X O K W st (aD O st loc w) a' w':=by
 have hkeepW:=wA hdis;rintro⟨st2,loc2,k1,k2,k3,k4,k5⟩;simp only[nV]at k1;split at k1
 case h_2=>exact k1.elim
 rename_i hpres;obtain⟨x',hx',hs',ho'⟩:=k1;have hvx:=hk x' hx';split at hvx
 case h_2=>exact hvx.elim
 rename_i hbb;simp only[ae]at hbb;have hhead:∀t,t∉W->∀v,look (cL an st x').env t=ξ v->look st.env t=ξ v:=by
  intro t ht v hv;simp only[cL,fT]at hv;split at hv
  ·rename_i u hu;exact absurd (tq hbb.2.2 hu) ht
  ·exact(kd hv).2
 obtain⟨m1,m2,m3⟩:=yW (an:=an) (st:=st) x' k2 k4 k3 (by
   intro n v hv;simp only[cL,fT]at hv;split at hv
   ·rename_i u hu;cases hv;exact qL hs' hu
   ·obtain⟨hmem,hl⟩:=kd hv
    refine⟨v,?_,me v⟩;obtain⟨v',hv'⟩:=qW hpres hmem;have:=k5 (hkeepW n hmem).1 n (hkeepW n hmem).2 v' hv';rw[hl]at this;cases this;exact hv')
  (by
   intro n v hv;simp only[cL]at hv;exact qM ho' hv) hbb.1 hbb.2.1
 exact⟨cL an st x',loc2,hvx,m1,m3,m2,fun _ t ht v hv=>hhead t ht v hv⟩
def JY(hok:nU P cx X){O:aO}{id:Nat}{ops:Array Oper}{draw:Bool}{st:St}{loc:Nat->Loc}{w:World}{a:Act}{K:Ex->St->VC}(hA:hZ cx (aD O st loc w) st a)(g:Good cx.eT X (aD O st loc w))(hO:gx O w)
  (h:(C4 cx ops draw st (K .normal)).holds):(Code.region id ops draw).wp P (lB cx X O K (eV ops.toList) st (aD O st loc w)) a w:=by
 have hW:∀(j:Nat) (oj:Oper) (d:Nat),ops[j]?=ξ oj->oj.dst=ξ d->d∈eV ops.toList:=by
  intro j oj d hj hd;exact er.2 ⟨oj,by rw[<-Array.getElem?_toList]at hj;exact ax hj,hd⟩
 have hq:∀st' loc' a' w',(K .normal st').holds->Good cx.eT X (aD O st' loc' w')->Tr (aD O st loc w) (aD O st' loc' w')->hZ cx (aD O st' loc' w') st' a'->qi (eV ops.toList) st st'->
   lB cx X O K (eV ops.toList) st (aD O st loc w) .normal a' w':=fun st' loc' a' w' h1 h2 h3 h4 h5=>⟨st',loc',h1,h2,h3,h4,h5⟩
 unfold C4 at h;cases draw with
 |false=>
  refine wp_region_list ?_;exact DE hok hW ops.toList (fun o ho d hd=>er.2 ⟨o,ho,hd⟩) hA g hO h hq
 |true=>
  split at h
  ·rename_i e;cases e
  ·rename_i e
   split at h
   ·rename_i hreg
    rw[Uh]at h;refine wp_region_any hok.mixed (IQ (loud:=my cx ops.toList) _ _ _ _ (aD O st loc {w with drawn:=w.drawn+1}).A ?_);have hdrew:Below w.heap.size w {w with drawn:=w.drawn+1}:=⟨rfl,rfl,ai _,fun _ _=>rfl⟩;obtain⟨tr,g'⟩:=rH (S:=aD O st loc w) (S':=aD O st loc {w with drawn:=w.drawn+1}) g rfl rfl rfl rfl hdrew;refine DF hok hW hreg (fun c a w h=>h) ops.size _ ?_ ⟨hA.size,hA.defers,hA.env.tr tr⟩ g' (hO.tr (ai _)) h ?_
    ·intro j o ho hj
     rw[ba,Array.getElem?_replicate]at hj;split at hj <;> simp at hj
    ·intro st' loc' a' w' h1 h2 h3 h4 h5
     obtain⟨st2,loc2,k1,k2,k3,k4,k5⟩:=ir.ren (K:=K .normal) (f:=canon st.next (eV ops.toList)) (W:=eV ops.toList) hA (fun st'=>by
      rcases Gm st.next (eV ops.toList) st' with e|⟨r,q,k1,k2⟩
      ·exact .inl e
      ·exact .inr ⟨r,q,k1,k2⟩) (⟨st',loc',h1,h2,tr.trans h3,h4,h5⟩:ir cx X O (fun st'=>K .normal (canon st.next (eV ops.toList) st')) (eV ops.toList) st (aD O st loc w) a' w')
     exact hq st2 loc2 a' w' k1 k2 k3 k4 k5
   ·exact h.elim
def adX(hok:nU P cx X)(anns:cP){O:aO}:∀(c:Code) (cur:Nat) {st:St} {loc:Nat->Loc} {w:World} {a:Act} {K:Ex->St->VC},
  hZ cx (aD O st loc w) st a->Good cx.eT X (aD O st loc w)->gx O w->(vc cx anns c cur st K).holds->c.wp P (lB cx X O K (writes anns cur c) st (aD O st loc w)) a w:=by
 intro c;induction c with
 |skip=>intro cur st loc w a K hA g hO h;exact wp_skip ⟨st,loc,h,g,Tr.refl _,hA,fun _ _ _ _ h=>h⟩
 |region id ops draw=>
  intro cur st loc w a K hA g hO h;simp only[vc]at h;split at h
  ·exact JY hok hA g hO h
  ·rename_i an _
   split at h
   case h_2=>exact h.elim
   rename_i hdis;obtain⟨hb,hk⟩:=h;refine wp_mono (JY (K:=fun e=>match e with|.normal=>nV an st|e=>K e) hok hA g hO hb) ?_;intro e a' w' hq;cases e with
   |normal=>exact JX hdis hk hq
   |exit i=>exact hq
   |ret=>exact hq
   |goto l=>exact hq.elim
   |panic c=>exact hq.elim
   |outgrown=>exact hq.elim
 |seq c1 c2 ih1 ih2=>
  intro cur st loc w a K hA g hO h;refine wp_seq ?_;refine wp_mono (ih1 cur hA g hO h) ?_;intro e a' w' hq;refine ahf (K:=K) (W:=writes anns cur c1) ?_ (fun e he=>by cases e <;> simp_all) ?_ hq
  ·rintro a1 w1 ⟨st',loc',k1,k2,k3,k4,k5⟩
   refine wp_mono (ih2 cur k4 k2 (hO.tr k3.size) k1) ?_;intro e a2 w2 hq2;exact hq2.mono k3 (W':=writes anns cur (.seq c1 c2)) (fun hm t ht=>k5 (fun h=>hm (a8.2 (.inl h))) t fun hm=>ht (a8.2 (.inl hm))) (fun n hn=>a8.2 (.inr hn))
  ·intro e a1 w1 hq1 _
   exact hq1.mono (Tr.refl _) (fun _ _ _ _ h=>h) (fun n hn=>a8.2 (.inl hn))
 |cond x c1 c2 ih1 ih2=>
  intro cur st loc w a K hA g hO h;have hx:=cB hA.env x;have h1:∀{K},(vc cx anns c1 cur st K).holds->c1.wp P (lB cx X O K (writes anns cur (.cond x c1 c2)) st (aD O st loc w)) a w:=fun h=>
   wp_mono (ih1 cur hA g hO h) fun e a' w' hq=>hq.mono (Tr.refl _) (fun _ _ _ _ h=>h) (fun n hn=>a8.2 (.inl hn))
  have h2:∀{K},(vc cx anns c2 cur st K).holds->c2.wp P (lB cx X O K (writes anns cur (.cond x c1 c2)) st (aD O st loc w)) a w:=fun h=>
   wp_mono (ih2 cur hA g hO h) fun e a' w' hq=>hq.mono (Tr.refl _) (fun _ _ _ _ h=>h) (fun n hn=>a8.2 (.inr hn))
  have base:∀{K:Ex->St->VC},(match fC st.env x with
    |.lit φ=>vc cx anns c1 cur st K
    |.lit ψ=>vc cx anns c2 cur st K
    |.d .bool g =>.ite g (vc cx anns c1 cur st K) (vc cx anns c2 cur st K)
    |_ =>.ff).holds->(Code.cond x c1 c2).wp P (lB cx X O K (writes anns cur (.cond x c1 c2)) st (aD O st loc w)) a w:=by
   intro K h;split at h
   ·rename_i hl;rw[hl]at hx;exact wp_cond_true hx (h1 h)
   ·rename_i hl;rw[hl]at hx;exact wp_cond_false hx (h2 h)
   ·rename_i b hl
    rw[hl]at hx;have hx:=(fW (eT:=cx.eT) (S:=aD O st loc w) (b:=b)).1 hx;cases b
    ·exact wp_cond_false hx (h2 (h.2 rfl))
    ·exact wp_cond_true hx (h1 (h.1 rfl))
   ·exact h.elim
  simp only[vc]at h;split at h
  ·exact base h
  ·rename_i an _
   split at h
   case h_2=>exact h.elim
   rename_i hdis;obtain⟨hb,hk⟩:=h;refine wp_mono (base (K:=fun e st'=>match e with|.normal=>nV an st st'|e=>K e st') hb) ?_;intro e a' w' hq;cases e with
   |normal=>exact JX hdis hk hq
   |exit i=>exact hq
   |ret=>exact hq
   |goto l=>exact hq.elim
   |panic c=>exact hq.elim
   |outgrown=>exact hq.elim
 |block id b ih=>
  intro cur st loc w a K hA g hO h;refine wp_block ?_;simp only[vc]at h;split at h
  case h_2=>
   rename_i an _;split at h
   case h_2=>exact h.elim
   rename_i hdis;have hkeepW:=wA hdis;obtain⟨hb,hk⟩:=h;refine wp_mono (ih id hA g hO hb) ?_;intro e a' w' hq;have join:ir cx X O (nV an st) (writes anns id b) st (aD O st loc w) a' w'->lB cx X O K (writes anns cur (.block id b)) st (aD O st loc w) .normal a' w':=by
    rintro⟨st2,loc2,k1,k2,k3,k4,k5⟩;simp only[nV]at k1;split at k1
    case h_2=>exact k1.elim
    rename_i hpres;obtain⟨x',hx',hs',ho'⟩:=k1;have hvx:=hk x' hx';split at hvx
    case h_2=>exact hvx.elim
    rename_i hbb;simp only[ae]at hbb;have hhead:∀t,t∉writes anns id b->∀v,look (cL an st x').env t=ξ v->look st.env t=ξ v:=by
     intro t ht v hv;simp only[cL,fT]at hv;split at hv
     ·rename_i u hu;exact absurd (tq hbb.2.2 hu) ht
     ·exact(kd hv).2
    obtain⟨m1,m2,m3⟩:=yW (an:=an) (st:=st) x' k2 k4 k3 (by
      intro n v hv;simp only[cL,fT]at hv;split at hv
      ·rename_i u hu;cases hv;exact qL hs' hu
      ·obtain⟨hmem,hl⟩:=kd hv
       refine⟨v,?_,me v⟩;obtain⟨v',hv'⟩:=qW hpres hmem;have:=k5 (hkeepW n hmem).1 n (hkeepW n hmem).2 v' hv';rw[hl]at this;cases this;exact hv')
     (by
      intro n v hv;simp only[cL]at hv;exact qM ho' hv) hbb.1 hbb.2.1
    exact⟨cL an st x',loc2,hvx,m1,m3,m2,fun _ t ht v hv=>hhead t ht v hv⟩
   cases e with
   |normal=>exact join hq
   |exit i=>
    show if i=id then _ else _
    by_cases hi:i=id
    ·rw[π hi]
     subst hi;obtain⟨st',loc',k1,k2⟩:=hq;simp only[bg]at k1;exact join ⟨st',loc',k1,k2⟩
    ·rw[ε hi]
     obtain⟨st',loc',k1,k2⟩:=hq;simp only[qE hi]at k1;exact⟨st',loc',k1,k2⟩
   |ret=>exact hq
   |goto l=>exact hq.elim
   |panic c=>exact hq.elim
   |outgrown=>exact hq.elim
  refine wp_mono (ih id hA g hO h) ?_;intro e a' w' hq;cases e with
  |normal=>exact hq
  |exit i=>
   obtain⟨st',loc',k1,k2,k3,k4,k5⟩:=hq;simp only at k1;show if i=id then _ else _
   split at k1
   ·rename_i hi
    rw[π (ag hi)];exact⟨st',loc',k1,k2,k3,k4,k5⟩
   ·rename_i hi
    rw[ε (fun e=>by rw[e,bg]at hi;cases hi)];exact⟨st',loc',k1,k2,k3,k4,k5⟩
  |ret=>exact hq
  |goto l=>exact hq.elim
  |panic c=>exact hq.elim
  |outgrown=>exact hq.elim
 |loop b ih=>
  intro cur st loc w a K hA g hO h;simp only[vc]at h;split at h
  ·rename_i hnone
   have hwl:writes anns cur (.loop b)=writes anns cur b:=by simp only[writes,hnone]
   split at h
   case h_2=>exact h.elim
   rename_i an _;split at h
   ·rename_i hdis
    have hkeepW:=wA hdis;obtain⟨⟨x0,hx0,hs0,ho0⟩,h⟩:=h;have hobk:∀x n v,look (cL an st x).aK n=ξ v->look (an.aK x) n=ξ v\/look st.aK n=ξ v:=by
     intro x n v hv;simp only[cL,fT]at hv;split at hv
     ·rename_i u hu;cases hv;exact .inl hu
     ·exact .inr (M6 hv)
    have hhead:∀x,pL (writes anns cur b) (an.bB x)=φ->∀t,t∉writes anns cur b->∀v,look (cL an st x).env t=ξ v->look st.env t=ξ v:=by
     intro x hk t ht v hv;simp only[cL,fT]at hv;split at hv
     ·rename_i u hu;exact absurd (tq hk hu) ht
     ·exact(kd hv).2
    refine wp_loop_ghost (fun n a' w'=>∃x loc',an.inv x/\an.bG x=n/\lP st.next (cL an st x).env=φ/\(lA st.next (cL an st x).aK=φ/\pL (writes anns cur b) (an.bB x)=φ)/\
     (vc cx anns b cur (cL an st x) fun e st'=>match e with
       |.normal=>match pK st'.env an.keep with
        |true =>.leaf (∃x',an.inv x'/\an.bG x'<an.bG x/\oU st' (an.bB x')/\oV st' (an.aK x'++j9 st an.gZ))
        |false =>.ff
       |e=>K e st').holds/\
     Good cx.eT X (aD O (cL an st x) loc' w')/\hZ cx (aD O (cL an st x) loc' w') (cL an st x) a'/\Tr (aD O st loc w) (aD O (cL an st x) loc' w')) (an.bG x0) ?_ ?_
    ·have hx:=h x0 hx0
     split at hx
     ·rename_i hb
      simp only[ae]at hb;obtain⟨m1,m2,m3⟩:=yW (an:=an) (st:=st) x0 g hA (Tr.refl _) (by
        intro n v hv;simp only[cL,fT]at hv;split at hv
        ·rename_i u hu;cases hv;exact qL hs0 hu
        ·obtain⟨_,hl⟩:=kd hv
         exact⟨v,hl,me v⟩)
       (by
        intro n v hv;rcases hobk x0 n v hv with hv|hv
        ·exact qM ho0 hv
        ·exact⟨v,hv,Si v⟩) hb.1 hb.2.1
      exact⟨x0,loc,hx0,rfl,hb.1,hb.2,hx,m1,m2,m3⟩
     ·exact hx.elim
    ·rintro n a1 w1 ⟨x,loc1,hx,hn,hb1,hb2,hvc,g1,hA1,tr1⟩
     refine wp_mono (ih cur hA1 g1 (hO.tr tr1.size) hvc) ?_;intro e a2 w2 hq;have up:∀Kx:St->VC,ir cx X O Kx (writes anns cur b) (cL an st x) (aD O (cL an st x) loc1 w1) a2 w2->ir cx X O Kx (writes anns cur (.loop b)) st (aD O st loc w) a2 w2:=by
      rintro Kx ⟨st2,loc2,k1,k2,k3,k4,k5⟩;exact⟨st2,loc2,k1,k2,tr1.trans k3,k4,fun hm t ht v hv=>by rw[hwl]at hm ht;exact hhead x hb2.2 t ht v (k5 hm t ht v hv)⟩
     cases e with
     |normal=>
      obtain⟨st2,loc2,k1,k2,k3,k4,k5⟩:=hq;simp only at k1;split at k1
      case h_2=>exact k1.elim
      rename_i hpres;obtain⟨x',hx',hlt,hs',ho'⟩:=k1;have hvx:=h x' hx';refine⟨an.bG x',by rw[<-hn];exact hlt,?_⟩;split at hvx
      ·rename_i hb
       simp only[ae]at hb;obtain⟨m1,m2,m3⟩:=yW (an:=an) (st:=st) x' k2 k4 (tr1.trans k3) (by
         intro n v hv;simp only[cL,fT]at hv;split at hv
         ·rename_i u hu;cases hv;exact qL hs' hu
         ·obtain⟨hmem,hl⟩:=kd hv
          refine⟨v,?_,me v⟩;obtain⟨v',hv'⟩:=qW hpres hmem;have:=hhead x hb2.2 n (hkeepW n hmem).2 v' (k5 (hkeepW n hmem).1 n (hkeepW n hmem).2 v' hv');rw[hl]at this;cases this;exact hv')
        (by
         intro n v hv;simp only[cL]at hv;exact qM ho' hv) hb.1 hb.2.1
       exact⟨x',loc2,hx',rfl,hb.1,hb.2,hvx,m1,m2,m3⟩
      ·exact hvx.elim
     |exit i=>exact up _ hq
     |ret=>exact up _ hq
     |goto l=>exact hq.elim
     |panic c=>exact hq.elim
     |outgrown=>exact hq.elim
   ·exact h.elim
  ·rename_i f hsome
   have hwl:writes anns cur (.loop b)=allM :: writes anns cur b:=by simp only[writes,hsome]
   generalize Om st (f st)=an at h;split at h
   case h_2=>exact h.elim
   rename_i hdis;have hkeepW:=wA hdis;obtain⟨hfit,h⟩:=h;obtain⟨x0,hx0,_,hf0⟩:=JR hfit;refine wp_loop_ghost (fun n a' w'=>∃x loc',an.inv x/\an.bG x=n/\(rX an st (writes anns cur b) x&&Ol an st)=φ/\
    (vc cx anns b cur (lL an st x) fun e st'=>match e with
      |.normal=>match pK st'.env an.keep with
       |true=>Gq an st st' fun x'=>an.bG x'<an.bG x
       |false =>.ff
      |e=>K e st').holds/\
    Good cx.eT X (aD O (lL an st x) loc' w')/\hZ cx (aD O (lL an st x) loc' w') (lL an st x) a'/\Tr (aD O st loc w) (aD O (lL an st x) loc' w')) (an.bG x0) ?_ ?_
   ·have hx:=h x0 hx0
    split at hx
    case h_2=>exact hx.elim
    rename_i hok2;obtain⟨loc',m1,m2,m3⟩:=JW (an:=an) (st:=st) x0 g hA (Tr.refl _) (ae _ _▸hok2).1 (ae _ _▸hok2).2 (fun n hn v hv=>⟨v,hv,me v⟩) hf0;exact⟨x0,loc',hx0,rfl,hok2,hx,m1,m2,m3⟩
   ·rintro n a1 w1 ⟨x,loc1,hx,hn,hokx,hvc,g1,hA1,tr1⟩
    refine wp_mono (ih cur hA1 g1 (hO.tr tr1.size) hvc) ?_;intro e a2 w2 hq;have up:∀Kx:St->VC,ir cx X O Kx (writes anns cur b) (lL an st x) (aD O (lL an st x) loc1 w1) a2 w2->ir cx X O Kx (writes anns cur (.loop b)) st (aD O st loc w) a2 w2:=by
     rintro Kx ⟨st2,loc2,k1,k2,k3,k4,k5⟩;exact⟨st2,loc2,k1,k2,tr1.trans k3,k4,fun hm=>by rw[hwl]at hm;exact absurd (List.mem_cons_self) hm⟩
    cases e with
    |normal=>
     obtain⟨st2,loc2,k1,k2,k3,k4,k5⟩:=hq;simp only at k1;split at k1
     case h_2=>exact k1.elim
     rename_i hpres;obtain⟨x',hx',hlt,hf'⟩:=JR k1;have hvx:=h x' hx';split at hvx
     case h_2=>exact hvx.elim
     rename_i hok2;refine⟨an.bG x',by rw[<-hn];exact hlt,?_⟩;obtain⟨loc',m1,m2,m3⟩:=JW (an:=an) (st:=st) x' k2 k4 (tr1.trans k3) (ae _ _▸hok2).1 (ae _ _▸hok2).2 (fun n hn v hv=>by
      obtain⟨v',hv'⟩:=qW hpres hn;have h1:=k5 (hkeepW n hn).1 n (hkeepW n hn).2 v' hv';refine⟨v',hv',?_⟩;have h2:=Wt (ae _ _▸hokx).1 hn h1 (hkeepW n hn).2;rw[hv]at h2;cases h2;exact me v) hf'
     exact⟨x',loc',hx',rfl,hok2,hvx,m1,m2,m3⟩
    |exit i=>exact up _ hq
    |ret=>exact up _ hq
    |goto l=>exact hq.elim
    |panic c=>exact hq.elim
    |outgrown=>exact hq.elim
 |rangeFunc f ps akH b _ _=>intro cur st loc w a K _ _ _ h;exact h.elim
 |exit id=>intro cur st loc w a K hA g hO h;exact wp_exit ⟨st,loc,h,g,Tr.refl _,hA,fun _ _ _ _ h=>h⟩
 |scope b _=>intro cur st loc w a K _ _ _ h;exact h.elim
 |label l=>intro cur st loc w a K _ _ _ h;exact h.elim
 |goto l=>intro cur st loc w a K _ _ _ h;exact h.elim
 |ret=>intro cur st loc w a K hA g hO h;exact wp_ret ⟨st,loc,h,g,Tr.refl _,hA,fun _ _ _ _ h=>h⟩
 |refuse why=>intro cur st loc w a K _ _ _ h;exact h.elim
end
@[reducible] def HL:List Ty->Type
 |[]=>Unit
 |[t]=>D t
 |t :: u :: r=>D t×HL (u :: r)
def nc:List Ty->Bool
 |[]=>φ
 |t :: r=>t.flat&&nc r
def Nu(st:St)(want:Ty)(n:Nat):Option (D want):=
 match look st.aK n with
 |some (.ext 0 t xs)=>match h:Ty.beq t want with
  |true=>ξ (dC h (a:=t) xs)
  |false=>χ
 |_=>χ
def Wu(lend:Bool)(st:St)(t:Ty)(a:dI):Option (D t):=
 match lend,t,a with
 |true,.slice e,.one (.bD n)=>A7 st e (.bD n)
 |true,t,.one (.xd n .top)=>Nu st t n
 |_,t,a=>uj t a
def qX(lend:Bool)(st:St):(ts:List Ty)->List dI->Option (HL ts)
 |[],[]=>ξ ()
 |[t],[a]=>Wu lend st t a
 |t :: u :: r,a :: akH=>match Wu lend st t a,qX lend st (u :: r) akH with
  |some x,ξ xs=>ξ (x,xs)
  |_,_=>χ
 |_,_=>χ
def sL:(ts:List Ty)->HL ts->List dI
 |[],_=>[]
 |[t],y=>[.one (.d t y)]
 |t :: u :: r,ys =>.one (.d t ys.1) :: sL (u :: r) ys.2
def wB:List dI->SV
 |[v] =>.s v
 |vs =>.pD vs
def Bw(st:St)(c:C):C×St:=
 match c with
 |.bD n=>match look st.aK n with
  |some (.bD t xs)=>(.d (.slice t) xs,bN st n)
  |_=>(c,st)
 |.xd n .top=>match look st.aK n with
  |some (.ext 0 t xs)=>(.d t xs,bN st n)
  |_=>(c,st)
 |c=>(c,st)
def yY:St->List C->List C×St
 |st,[]=>([],st)
 |st,c :: cs=>match Bw st c with
  |(c',st1)=>match yY st1 cs with
   |(cs',st2)=>(c' :: cs',st2)
def E5(st:St)(v:dI):dI×St:=
 match v with
 |.one c=>match Bw st c with
  |(c',st')=>(.one c',st')
 |.agg cs=>match yY st cs with
  |(cs',st')=>(.agg cs',st')
def IY(lend:Bool)(st:St)(v:dI):dI×St:=
 match lend,v with
 |true,.one c=>(.one c,st)
 |_,v=>E5 st v
def xh(lend:Bool):St->List dI->List dI×St
 |st,[]=>([],st)
 |st,v :: vs=>match IY lend st v with
  |(v',st1)=>match xh lend st1 vs with
   |(vs',st2)=>(v' :: vs',st2)
def yZ(ts rts:List Ty)(pre:HL ts->Prop)(post:HL ts->HL rts->Prop):aL:=fun args st K=>
 match xh (nc rts) st args with
 |(args,st)=>match qX (nc rts) st ts args with
  |some xs =>.and (pre xs) (.all (HL rts) fun ys =>.imp (post xs ys) (K (wB (sL rts ys)) st))
  |none =>.ff
def bP(ts rts:List Ty)(pre:HL ts->Prop)(g:HL ts->HL rts):aL:=fun args st K=>
 match xh (nc rts) st args with
 |(args,st)=>match qX (nc rts) st ts args with
  |some xs =>.and (pre xs) (K (wB (sL rts (g xs))) st)
  |none =>.ff
inductive Dec (α:Type) where
 |ret (a:α)
 |ite (c:Bool) (a b:Dec α)
def Dec.eval{α:Type}:Dec α->α
 |.ret a=>a
 |.ite c a b=>match c with
  |true=>a.eval
  |false=>b.eval
def Zx(st:St)(want:Ty)(c:C):Option (D want):=
 match c with
 |.bD n=>match look st.aK n with
  |some (.bD t xs)=>match h:Ty.beq (.slice t) want with
   |true=>ξ (dC h (a:=.slice t) xs)
   |false=>χ
  |_=>χ
 |.xd n .top=>Nu st want n
 |c=>wh want c
def qY(st:St):(t:Ty)->List C->Option (D t×List C)
 |.prod a b,cs=>match qY st a cs with
  |some (x,cs1)=>match qY st b cs1 with
   |some (y,cs2)=>ξ ((x,y),cs2)
   |none=>χ
  |none=>χ
 |.unit,cs=>ξ ((),cs)
 |t,c :: cs=>match Zx st t c with
  |some x=>ξ (x,cs)
  |none=>χ
 |_,[]=>χ
def Wv(st:St)(want:Ty):dI->Option (D want)
 |.one c=>Zx st want c
 |.agg cs=>match want.one with
  |true=>χ
  |false=>match qY st want cs with
   |some (x,[])=>ξ x
   |_=>χ
def Bx(st:St):(ts:List Ty)->List dI->Option (HL ts)
 |[],[]=>ξ ()
 |[t],[a]=>Wv st t a
 |t :: u :: r,a :: akH=>match Wv st t a,Bx st (u :: r) akH with
  |some x,ξ xs=>ξ (x,xs)
  |_,_=>χ
 |_,_=>χ
def tu(cx:Cx)(st:St):List ResultVar->(List dI->VC)->VC
 |[],K=>K []
 |.tmp t :: r,K=>match ev st.env (.tmp t)with
  |.s v=>tu cx st r fun vs=>K (v :: vs)
  |_ =>.ff
 |.cell a t :: r,K=>A5 cx st t (fC st.env (.tmp a)) fun sv=>match sv with
  |.s v=>tu cx st r fun vs=>K (v :: vs)
  |_ =>.ff
def Ww(cx:Cx)(anns:cP)(res:List ResultVar)(c:Code)(st:St)(K:List dI->St->VC):VC:=
 vc cx anns c 0 st fun e st'=>match e with
  |.exit _ =>.ff
  |_=>tu cx st' res fun vs=>K vs st'
def uo(B:Cx)(Γ:List (FuncId×(Bool×aL)))(N:Nat):Cx:={B with Γ:=Γ,N:=N}
def xW:Nat->(ts:List Ty)->HL ts->List (Nat×SV)
 |_,[],_=>[]
 |k,[t],x=>[(k,.s (.one (.d t x)))]
 |k,t :: u :: r,xs=>(k,.s (.one (.d t xs.1))) :: xW (k+1) (u :: r) xs.2
def tw(ts:List Ty)(xs:HL ts):St:={env:=xW 0 ts xs,aK:=[],next:=0}
def Un(B:Cx)(Γ:List (FuncId×(Bool×aL)))(N:Nat)(anns:cP)(res:List ResultVar)(c:Code)(ts rts:List Ty)(post:HL ts->HL rts->Prop)(xs:HL ts):VC:=
 Ww (uo B Γ N) anns res c (tw ts xs) fun vs st=>match Bx st rts vs with
  |some ys =>.leaf (post xs ys)
  |none =>.ff
section
variable{eT:TypeId}{X:Ext}{P:Program}{cx:Cx}
def nM(eT:TypeId)(A:aO)(w:World):(ts:List Ty)->HL ts->List Value->Prop
 |[],_,vs=>vs=[]
 |[t],x,vs=>∃v,vs=[v]/\VR eT t x A w v
 |t :: u :: r,xs,vs=>∃v vs',vs=v :: vs'/\VR eT t xs.1 A w v/\nM eT A w (u :: r) xs.2 vs'
def xi:List Value->Value
 |[v]=>v
 |vs =>.tuple vs.toArray
structure jj (P:Program) (eT:TypeId) (X:Ext) (f:FuncId) (ts rts:List Ty) (pre:HL ts->Prop) (post:HL ts->HL rts->Prop):Prop where
 fn:∃fn,P.funcs[f]?=ξ fn/\fn.body.isNone=ψ/\(fn.name == "runtime.NumGoroutine")=ψ
 ok:∀O w xs vs,X.AX w->gx O w->nM eT O w ts xs vs->pre xs->
  Calls P f vs.toArray w fun e w'=>∃us ys,e=.returned (xi us)/\post xs ys/\nM eT O w' rts ys us/\Below w.heap.size w w'
def vB(tmps:Array Value):ResultVar->Sem Value
 |.tmp t=>pure (tmps.getD t undef)
 |.cell b t=>do loadVar t (<-asAddr (tmps.getD b undef))
def DK(hok:TyOK P cx){O:aO}{st:St}{loc:Nat->Loc}{w:World}{a:Act}(g:Good cx.eT X (aD O st loc w))(he:iP cx.eT (aD O st loc w) st.env a) :
  ∀{rs:List ResultVar} {K:List dI->VC},(tu cx st rs K).holds->
  ∃vs us,(K vs).holds/\dK cx.eT (aD O st loc w) vs us/\(rs.mapM (vB a.tmps):Sem (List Value)).run P w=.ok us w:=by
 intro rs;induction rs with
 |nil=>intro K h;exact⟨[],[],h,.nil,rfl⟩
 |cons r rs ih=>
  intro K h;cases r with
  |tmp t=>
   simp only[tu]at h;split at h
   ·rename_i v hv
    obtain⟨vs,us,h1,h2,h3⟩:=ih h;have hr:=nS he (.tmp t);rw[hv]at hr;refine⟨v :: vs,a.tmps.getD t undef :: us,h1,.cons hr h2,?_⟩;rw[de];simp only[vB,af,ak,aq,h3]
   ·exact h.elim
  |cell b t=>
   simp only[tu]at h;obtain⟨sv,u,h1,h2,h3⟩:=yA (P:=P) hok g (cB he (.tmp b)) h;split at h1
   ·rename_i v
    obtain⟨vs,us,k1,k2,k3⟩:=ih h1;have h3:=h3 w (Below.refl _ _);refine⟨v :: vs,u :: us,k1,.cons h2 k2,?_⟩;rw[de];have h4:(do loadVar t (<-asAddr (a.tmps.getD b undef)):Sem Value).run P w=.ok u w:=by
     have h3:(ck t (a.tmps.getD b undef)).run P w=.ok u w:=h3;generalize a.tmps.getD b undef=p at h3;cases p with
     |pointer q=>
      cases q with
      |none=>simp[ck,df]at h3
      |some q=>simpa[ck,df,asAddr]using h3
     |_=>simp[ck,df]at h3
    simp only[vB,af]at h4 ⊢;simp only[h4,ak,aq,k3]
   ·exact h1.elim
def dK.len{S:bT}{xs:List dI}{us:List Value}(h:dK eT S xs us):xs.length=us.length:=by
 induction h with
 |nil=>rfl
 |cons _ _ ih=>simp[ih]
def By{S:bT}{vs:List dI}{us:List Value}(h:dK eT S vs us):eK eT S (wB vs) (xi us):=by
 match vs,us,h with
 |[],[],h=>exact⟨[],rfl,h⟩
 |[v],[u],.cons h1 .nil=>exact h1
 |_ :: _ :: _,_ :: _ :: _,h=>exact⟨_,rfl,h⟩
def xj(hok:nU P cx X){f:FuncId}{fn:Func}{c:Code}(hf:P.funcs[f]?=ξ fn)(hb:fn.body=ξ c)(hN:cx.N=fn.ntmps)(anns:cP){O:aO}{st:St}{loc:Nat->Loc}{w:World}
  {args:Array Value}{K:List dI->St->VC}(hsz:args.size<=fn.ntmps)(g:Good cx.eT X (aD O st loc w))(hO:gx O w)
  (henv:∀t sv,look st.env t=ξ sv->∃v,args[t]?=ξ v/\eK cx.eT (aD O st loc w) sv v)
  (h:(Ww cx anns fn.results.toList c st K).holds) :
  Calls P f args w fun e w'=>∃vs us st' loc',e=.returned (xi us)/\(K vs st').holds/\dK cx.eT (aD O st' loc' w') vs us/\Good cx.eT X (aD O st' loc' w')/\Tr (aD O st loc w) (aD O st' loc' w'):=by
 refine calls_of_wp hf hb ?_;have hA:hZ cx (aD O st loc w) st {tmps:=args++en (fn.ntmps-args.size) undef,defers:=[]}:=by
  refine⟨by simp[hN];omega,rfl,fun t sv ht =>?_⟩;obtain⟨v,hv,hr⟩:=henv t sv ht;have hlt:t<args.size:=by
   rcases a7 t args.size with hh|hh
   ·exact hh
   ·rw[Array.getElem?_eq_none hh]at hv;cases hv
  rw[ba,Array.getElem?_append,π hlt,hv];exact hr
 refine wp_mono (adX hok anns c 0 hA g hO h) ?_;have fin:∀(a':Act) (w':World),ir cx X O (fun st'=>tu cx st' fn.results.toList fun vs=>K vs st') (writes anns 0 c) st (aD O st loc w) a' w'->a'.defers=[]/\∃v,(results fn a'.tmps).run P w'=.ok v w'/\
   ∃vs us st' loc',Ending.returned v=.returned (xi us)/\(K vs st').holds/\dK cx.eT (aD O st' loc' w') vs us/\Good cx.eT X (aD O st' loc' w')/\Tr (aD O st loc w) (aD O st' loc' w'):=by
  rintro a' w' ⟨st',loc',k1,k2,k3,k4,_⟩;obtain⟨vs,us,m1,m2,m3⟩:=DK (P:=P) hok.toTyOK k2 k4.env k1;refine⟨k4.defers,xi us,?_,vs,us,st',loc',rfl,m1,m2,k2,k3⟩;have hm:(fn.results.mapM (vB a'.tmps):Sem (Array Value)).run P w'=.ok us.toArray w':=by
   rw[<-dh (xs:=fn.results),List.mapM_toArray,Sem.run_map,m3];rfl
  have he:results fn a'.tmps=(do
    let xs <-fn.results.mapM (vB a'.tmps)
    return if h:xs.size=1 then xs[0]else .tuple xs):=by
   unfold results;congr 1
  rw[he,af,hm];simp only[aq,ak]
  match us with
  |[]=>rfl
  |[u]=>rfl
  |_ :: _ :: _=>rfl
 intro e a' w' hq;cases e with
 |normal=>exact fin a' w' hq
 |ret=>exact fin a' w' hq
 |exit n=>obtain⟨st',loc',k1,_⟩:=hq;exact k1.elim
 |goto l=>exact hq.elim
 |panic c=>exact hq.elim
 |outgrown=>exact hq.elim
end
section
variable{X:Ext}{P:Program}{cx:Cx}
def Zy{O:aO}{st:St}{loc:Nat->Loc}{w:World}{b o:Nat}(h:¬(aD O st loc w).A b o):¬O b o:=fun k=>h (.inl k)
def akm{O:aO}{st:St}{loc:Nat->Loc}{w:World}{t:Ty}{x:D t}{v:Value}{eT:TypeId}(h:VR eT t x (aD O st loc w).A w v):VR eT t x O w v:=
 VR.frame h fun _ _ _ ha hc=>⟨hc,Zy ha⟩
def Uo{O:aO}{st:St}{loc:Nat->Loc}{w:World}(g:Good cx.eT X (aD O st loc w)){n:Nat}{t:Ty}{xs:List (D t)}(hob:look st.aK n=ξ (.bD t xs))
  {v:Value}(hx:CR cx.eT (aD O st loc w) (.bD n) v):VR cx.eT (.slice t) xs O w v:=by
 rcases(g.obj _ _ hob).2 with⟨rfl,⟨a,ha⟩,_⟩|⟨b,vs,T,cap,hl,js,hheap,hvs,hcap,hbig,he⟩
 ·exact VR.dF rfl ⟨_,rfl,ς,.inl ⟨rfl,a,0,(hx.2 _ _ hob).trans ha⟩⟩
 refine VR.dF rfl ⟨_,rfl,hbig,.inr ⟨b,0,cap,(hx.2 _ _ hob).trans hl,hcap,fun i y hy =>?_⟩⟩;obtain⟨us,h1,h2⟩:=he i y hy;refine⟨us,h1.frame fun _ _ _ ha hc=>⟨hc,Zy ha⟩,fun j u hj=>⟨?_,?_⟩⟩
 ·rw[aw,cell_of_row w b _ vs T (0,0) hheap];exact h2 j u hj
 ·exact g.out n _ b _ hob (by rw[js];simp)
def Up{O:aO}{st:St}{loc:Nat->Loc}{w:World}(g:Good cx.eT X (aD O st loc w)){n:Nat}{t:Ty}{xs:D t}(hob:look st.aK n=ξ (.ext 0 t xs))
  {v:Value}(hx:CR cx.eT (aD O st loc w) (.xd n .top) v){A:aO}(hA:∀b∈(loc n).bs,∀o,¬A b o):VR cx.eT t xs A w v:=by
 have hd:mU t xs (loc n) w:=X.deep.1 (g.obj _ _ hob).2;obtain⟨e,s,rfl,hs⟩:=wj hd;exact hd.data (hx.2 _ _ hob) hA
def JZ{O:aO}{st:St}{loc:Nat->Loc}{w:World}(g:Good cx.eT X (aD O st loc w)){n:Nat}{t:Ty}{xs:D t}(h:Nu st t n=ξ xs)
  {v:Value}(hx:CR cx.eT (aD O st loc w) (.xd n .top) v):VR cx.eT t xs O w v:=by
 unfold Nu at h;split at h
 ·rename_i t' ys hob
  split at h
  ·cases h;rename_i hb
   exact oy hb _ (Up g hob hx fun b hb o=>g.out n _ b o hob hb)
  ·cases h
 ·cases h
def Uq{O:aO}{st:St}{loc:Nat->Loc}{w:World}(g:Good cx.eT X (aD O st loc w)){want:Ty}{c:C}{x:D want}{v:Value}(h:Zx st want c=ξ x)
  (hc:CR cx.eT (aD O st loc w) c v):VR cx.eT want x O w v:=by
 unfold Zx at h;split at h
 ·rename_i n
  split at h
  ·rename_i t xs hob
   split at h
   ·cases h;rename_i hb;exact oy hb _ (Uo g hob hc)
   ·cases h
  ·cases h
 ·exact JZ g h hc
 ·exact akm (sA h hc)
def Zz{O:aO}{st:St}{loc:Nat->Loc}{w:World}(g:Good cx.eT X (aD O st loc w)):∀{t:Ty} {cs cs':List C} {x:D t} {vs:List Value},qY st t cs=ξ (x,cs')->fH cx.eT (aD O st loc w) cs vs->
  ∃us vs',vs=us++vs'/\R cx.eT t x O w us/\fH cx.eT (aD O st loc w) cs' vs':=by
 have one:∀{t:Ty} {c:C} {cs cs':List C} {x:D t} {vs:List Value},(match Zx st t c with|some x=>ξ (x,cs)|none=>χ)=ξ (x,cs')->fH cx.eT (aD O st loc w) (c :: cs) vs->
   ∃us vs',vs=us++vs'/\R cx.eT t x O w us/\fH cx.eT (aD O st loc w) cs' vs':=by
  intro t c cs cs' x vs h hc;cases hc with
  |cons h1 h2 h3=>
   rename_i v vs0;split at h
   ·rename_i y hy
    cases h;exact⟨[v],vs0,rfl,(Dw h2 (Uq g hy h1)).2,h3⟩
   ·cases h
 intro t;induction t with
 |prod a b iha ihb=>
  intro cs cs' x vs h hc;simp only[qY]at h;split at h
  ·rename_i y cs1 h1
   split at h
   ·rename_i z cs2 h2
    cases h;obtain⟨u1,v1,rfl,r1,k1⟩:=iha h1 hc;obtain⟨u2,v2,rfl,r2,k2⟩:=ihb h2 k1;exact⟨u1++u2,v2,ς,⟨u1,u2,rfl,r1,r2⟩,k2⟩
   ·cases h
  ·cases h
 |unit=>
  intro cs cs' x vs h hc;simp only[qY]at h;cases h;exact⟨[],vs,rfl,rfl,hc⟩
 |bool=>intro cs cs' x vs h hc;cases cs with|nil=>simp[qY]at h|cons c cs=>exact one (t:=.bool) h hc
 |int k=>intro cs cs' x vs h hc;cases cs with|nil=>simp[qY]at h|cons c cs=>exact one (t:=.int k) h hc
 |str=>intro cs cs' x vs h hc;cases cs with|nil=>simp[qY]at h|cons c cs=>exact one (t:=.str) h hc
 |err=>intro cs cs' x vs h hc;cases cs with|nil=>simp[qY]at h|cons c cs=>exact one (t:=.err) h hc
 |gu=>intro cs cs' x vs h hc;cases cs with|nil=>simp[qY]at h|cons c cs=>exact one (t:=.gu) h hc
 |slice e _=>intro cs cs' x vs h hc;cases cs with|nil=>simp[qY]at h|cons c cs=>exact one (t:=.slice e) h hc
def Oo{O:aO}{st:St}{loc:Nat->Loc}{w:World}(g:Good cx.eT X (aD O st loc w)){want:Ty}{c:dI}{x:D want}{v:Value}(h:Wv st want c=ξ x)
  (hc:jR cx.eT (aD O st loc w) c v):VR cx.eT want x O w v:=by
 cases c with
 |one c=>exact Uq g h hc
 |agg cs=>
  simp only[Wv]at h;obtain⟨vs,rfl,hcs⟩:=hc;split at h
  ·cases h
  ·rename_i ho
   split at h
   ·rename_i y hy
    cases h;obtain⟨us,vs',rfl,r,k⟩:=Zz g hy hcs;cases k;unfold VR;rw[ε (by simp[ho])];exact⟨_,rfl,by simpa using r⟩
   ·cases h
def Oq{O:aO}{st:St}{loc:Nat->Loc}{w:World}(g:Good cx.eT X (aD O st loc w)):∀{ts:List Ty} {vs:List dI} {ys:HL ts} {us:List Value},Bx st ts vs=ξ ys->
  dK cx.eT (aD O st loc w) vs us->nM cx.eT O w ts ys us
 |[],[],_,_,_,.nil=>rfl
 |[t],[a],ys,_,h,.cons h1 .nil=>⟨_,rfl,Oo g h h1⟩
 |t :: u :: r,a :: akH,ys,_,h,.cons h1 h2=>by
  simp only[Bx]at h;split at h
  ·rename_i x xs k1 k2
   cases h;exact⟨_,_,rfl,Oo g k1 h1,Oq g k2 h2⟩
  ·cases h
 |[],_ :: _,_,_,h,_=>by simp[Bx]at h
 |[_],[],_,_,h,_=>by simp[Bx]at h
 |[_],_ :: _ :: _,_,_,h,_=>by simp[Bx]at h
 |_ :: _ :: _,[],_,_,h,_=>by simp[Bx]at h
def Gw{eT:TypeId}{O:aO}{w:World}{S:bT}(hS:S.w=w)(hA:∀b o,¬O b o->¬S.A b o):∀(ts:List Ty) (k:Nat) (xs:HL ts) (vs:List Value),nM eT O w ts xs vs->
  ∀t sv,look (xW k ts xs) t=ξ sv->k<=t/\∃v,vs[t-k]?=ξ v/\eK eT S sv v
 |[],k,xs,vs,_,t,sv,h=>by simp[xW,look]at h
 |[ty],k,x,_,⟨v,rfl,hv⟩,t,sv,h=>by
  simp only[xW,cX]at h;split at h
  ·cases h
   rename_i e;subst e;exact⟨ai _,v,ς,VR.frame hv fun b o _ ha hc=>⟨by rw[hS];exact hc,hA b o ha⟩⟩
  ·simp[look]at h
 |ty :: u :: r,k,xs,_,⟨v,vs',rfl,hv,hr⟩,t,sv,h=>by
  simp only[xW,cX]at h;split at h
  ·cases h
   rename_i e;subst e;exact⟨ai _,v,ς,VR.frame hv fun b o _ ha hc=>⟨by rw[hS];exact hc,hA b o ha⟩⟩
  ·obtain⟨h1,v',h2,h3⟩:=Gw hS hA (u :: r) (k+1) xs.2 vs' hr t sv h
   refine⟨ω,v',?_,h3⟩;rw[show t-k=(t-(k+1))+1 from by omega,List.getElem?_cons_succ];exact h2
def nM.length{eT:TypeId}{O:aO}{w:World}:∀{ts:List Ty} {xs:HL ts} {vs:List Value},nM eT O w ts xs vs->vs.length=ts.length
 |[],_,_,h=>by rw[show _=[]from h];rfl
 |[_],_,_,⟨_,rfl,_⟩=>rfl
 |_ :: u :: r,_,_,⟨_,_,rfl,_,h⟩=>by simp[nM.length h]
def wf:(t:Ty)->D t->Prop
 |.int k,x=>k.min<=x/\x<=k.max
 |.str,x=>x.length<=aG
 |.prod a b,x=>wf a x.1/\wf b x.2
 |.slice e,x=>x.length<=aG/\∀(i:Nat) y,x[i]?=ξ y->wf e y
 |_,_=>True
def ZA:(ts:List Ty)->HL ts->Prop
 |[],_=>True
 |[t],x=>wf t x
 |t :: u :: r,xs=>wf t xs.1/\ZA (u :: r) xs.2
def R.wf{eT:TypeId}:∀{t:Ty} {x:D t} {A:aO} {w:World} {vs:List Value},R eT t x A w vs->Vg.wf t x:=by
 intro t;induction t with
 |int k=>intro x A w vs h;exact h.2
 |str=>intro x A w vs h;exact h.2
 |prod a b iha ihb=>intro x A w vs h;obtain⟨_,_,_,h1,h2⟩:=h;exact⟨iha h1,ihb h2⟩
 |slice e ih=>
  intro x A w vs h;obtain⟨v,_,hl,h⟩:=h;refine⟨hl,fun i y hy =>?_⟩;rcases h with⟨rfl,_⟩|⟨b,o,cap,_,_,h⟩
  ·simp at hy
  ·obtain⟨us,h1,_⟩:=h i y hy;exact ih h1
 |_=>intro x A w vs h;trivial
def VR.wf{eT:TypeId}{t:Ty}{x:D t}{A:aO}{w:World}{v:Value}(h:VR eT t x A w v):Vg.wf t x:=(VR.cells h).wf
def nM.wf{eT:TypeId}{O:aO}{w:World}:∀{ts:List Ty} {xs:HL ts} {vs:List Value},nM eT O w ts xs vs->ZA ts xs
 |[],_,_,_=>trivial
 |[_],_,_,⟨_,_,h⟩=>h.wf
 |_ :: _ :: _,_,_,⟨_,_,_,h,h'⟩=>⟨h.wf,nM.wf h'⟩
def Wx{B:Cx}{X:Ext}{Γ:List (FuncId×(Bool×aL))}{N:Nat}{f:FuncId}{fn:Func}{c:Code}(hok:nU P (uo B Γ N) X)(hf:P.funcs[f]?=ξ fn)(hb:fn.body=ξ c)(hn:(fn.name == "runtime.NumGoroutine")=ψ)
  (hN:fn.ntmps=N){ts rts:List Ty}(anns:HL ts->cP)(hts:ts.length<=N){pre:HL ts->Prop}{post:HL ts->HL rts->Prop}
  (h:∀xs,ZA ts xs->pre xs->(Un B Γ N (anns xs) fn.results.toList c ts rts post xs).holds) :
  jj P B.eT X f ts rts pre post:=by
 refine⟨⟨fn,hf,by rw[hb];rfl,hn⟩,fun O w xs vs hG hO ha hp =>?_⟩;have g0:Good (uo B Γ N).eT X (aD O (tw ts xs) (fun _=>default) w):=
  ⟨fun n oc h=>by simp[aD,tw,look]at h,fun n m oc oc' b h=>by simp[aD,tw,look]at h,fun n oc b off h=>by simp[aD,tw,look]at h,hG,fun b hb ⟨n,oc,h,_⟩=>by simp[aD,tw,look]at h⟩
 have hA0:∀b o,¬O b o->¬(aD O (tw ts xs) (fun _=>default) w).A b o:=by
  rintro b o h (k|⟨n,oc,k,_⟩)
  ·exact h k
  ·simp[aD,tw,look]at k
 refine bx (xj hok hf hb hN.symm (anns xs) (by simpa[ha.length,hN]using hts) g0 hO ?_ (h xs ha.wf hp)) ?_
 ·intro t sv ht
  obtain⟨_,v,h1,h2⟩:=Gw (eT:=B.eT) (S:=aD O (tw ts xs) (fun _=>default) w) rfl hA0 ts 0 xs vs ha t sv ht;exact⟨v,by simpa using h1,h2⟩
 ·rintro e w' ⟨vs',us,st',loc',rfl,h1,h2,h3,h4⟩
  split at h1
  ·rename_i ys hys
   refine⟨us,ys,rfl,h1,Oq h3 hys h2,h4.os,h4.output,h4.size,fun k hk=>h4.block k hk ?_⟩;rintro⟨n,oc,k,_⟩;simp[aD,tw,look]at k
  ·exact h1.elim
def oD:aO:=fun _ _=>False
def outer(lend:Bool)(A:aO):aO:=match lend with
 |true=>oD
 |false=>A
def Ot{O:aO}{st:St}{loc:Nat->Loc}{w:World}(g:Good cx.eT X (aD O st loc w)){lend:Bool}{t:Ty}{a:dI}{x:D t}{v:Value}(h:Wu lend st t a=ξ x)
  (ha:jR cx.eT (aD O st loc w) a v):VR cx.eT t x (outer lend (aD O st loc w).A) w v:=by
 have base:uj t a=ξ x->VR cx.eT t x (outer lend (aD O st loc w).A) w v:=by
  intro h;refine VR.IU (oz h ha) fun b o k =>?_
  cases lend with
  |true=>exact id
  |false=>exact k
 unfold Wu at h;split at h
 ·rename_i e n x' heq
  unfold A7 at h;simp only[IE]at h;split at h
  ·rename_i e' ys hob
   split at h
   ·cases h;rename_i hb
    exact oy hb _ (VR.IU (Uo g hob ha) fun _ _ _=>id)
   ·cases h
  ·cases h
 ·exact VR.IU (JZ g h ha) fun _ _ _=>id
 ·exact base h
def J0{O:aO}{st:St}{loc:Nat->Loc}{w:World}(g:Good cx.eT X (aD O st loc w)){lend:Bool}:∀{ts:List Ty} {akH:List dI} {xs:HL ts} {vs:List Value},qX lend st ts akH=ξ xs->
  dK cx.eT (aD O st loc w) akH vs->nM cx.eT (outer lend (aD O st loc w).A) w ts xs vs
 |[],[],_,_,_,.nil=>rfl
 |[t],[a],xs,_,h,.cons h1 .nil=>⟨_,rfl,Ot g h h1⟩
 |t :: u :: r,a :: akH,xs,_,h,.cons h1 h2=>by
  simp only[qX]at h;split at h
  ·rename_i x xs k1 k2
   cases h;exact⟨_,_,rfl,Ot g k1 h1,J0 g k2 h2⟩
  ·cases h
 |[],_ :: _,_,_,h,_=>by simp[qX]at h
 |[_],[],_,_,h,_=>by simp[qX]at h
 |[_],_ :: _ :: _,_,_,h,_=>by simp[qX]at h
 |_ :: _ :: _,[],_,_,h,_=>by simp[qX]at h
def DL{eT:TypeId}{S:bT}{O:aO}{w:World}(hS:S.w=w):∀{ts:List Ty} {ys:HL ts} {us:List Value},(nc ts=φ\/O=S.A)->nM eT O w ts ys us->dK eT S (sL ts ys) us
 |[],_,_,_,h=>by rw[show _=[]from h];exact .nil
 |[t],y,_,hl,⟨v,rfl,hv⟩=>by
  refine .cons ?_ .nil;subst hS;rcases hl with hl|hl
  ·simp only[nc,ep]at hl
   exact VR.of_flat hl hv
  ·subst hl;exact hv
 |t :: u :: r,ys,_,hl,⟨v,vs',rfl,hv,hr⟩=>by
  refine .cons ?_ (DL hS ?_ hr)
  ·subst hS
   rcases hl with hl|hl
   ·simp only[nc,ae]at hl
    exact VR.of_flat hl.1 hv
   ·subst hl;exact hv
  ·rcases hl with hl|hl
   ·simp only[nc,ae]at hl ⊢;exact .inl hl.2
   ·exact .inr hl
def ajT{O:aO}{st:St}{loc:Nat->Loc}{w:World}{eT:TypeId}(g:Good eT X (aD O st loc w))(hO:gx O w):gx (aD O st loc w).A w:=by
 rintro b off (h|⟨n,oc,h1,h2,_⟩)
 ·exact hO b off h
 ·exact(g.obj n oc h1).2.inside b h2
def J1{eT:TypeId}{f:FuncId}{ts rts:List Ty}{pre:HL ts->Prop}{post:HL ts->HL rts->Prop}(h:jj P eT X f ts rts pre post)
  {O:aO}{st:St}{loc:Nat->Loc}{w:World}{args:List dI}{vs:List Value}{xs:HL ts}(hx:qX (nc rts) st ts args=ξ xs)(hp:pre xs)
  {K:SV->St->VC}(hK:∀ys,post xs ys->(K (wB (sL rts ys)) st).holds)
  (g:Good eT X (aD O st loc w))(hO:gx O w)(ha:dK eT (aD O st loc w) args vs) :
  Calls P f vs.toArray w fun e w'=>∃v sv st' loc',e=.returned v/\(K sv st').holds/\st'.env=st.env/\(φ=φ->Below w.heap.size w w')/\Good eT X (aD O st' loc' w')/\
   Tr (aD O st loc w) (aD O st' loc' w')/\eK eT (aD O st' loc' w') sv v:=by
 have g':Good (Cx.mk eT [] [] [] 0 [] [] [] ψ [] []).eT X (aD O st loc w):=g;have hOut:gx (outer (nc rts) (aD O st loc w).A) w:=by
  intro b off hb;cases hf:nc rts with
  |true=>rw[hf]at hb;exact hb.elim
  |false=>rw[hf]at hb;exact ajT g hO b off hb
 refine bx (h.ok _ w xs vs g.nw.1 hOut (J0 g' hx ha) hp) ?_;rintro e w' ⟨us,ys,rfl,h1,h2,h3⟩;obtain⟨t,g2⟩:=rH (S':=aD O st loc w') g rfl rfl rfl rfl h3;refine⟨_,_,st,loc,rfl,hK ys h1,rfl,fun _=>h3,g2,t,By (DL rfl ?_ h2)⟩;cases hf:nc rts with
 |true=>exact .inl rfl
 |false=>exact .inr (by simp only[outer];funext b off;simp[bT.A,aD])
def Gx{O:aO}{st:St}{loc:Nat->Loc}{w:World}(g:Good cx.eT X (aD O st loc w))(c:C) :
  Tr (aD O st loc w) (aD O (Bw st c).2 loc w)/\Good cx.eT X (aD O (Bw st c).2 loc w)/\(Bw st c).2.env=st.env/\
   ∀v,CR cx.eT (aD O st loc w) c v->CR cx.eT (aD O (Bw st c).2 loc w) (Bw st c).1 v:=by
 unfold Bw;split
 ·rename_i n
  split
  ·rename_i t xs hob
   obtain⟨h1,h2⟩:=pH g n;exact⟨h1,h2,rfl,fun v hv=>DC g hob hv⟩
  ·exact⟨Tr.refl _,g,rfl,fun v hv=>hv⟩
 ·rename_i n
  split
  ·rename_i t xs hob
   obtain⟨h1,h2⟩:=pH g n;refine⟨h1,h2,rfl,fun v hv=>Up g hob hv fun b hb o =>?_⟩;rintro(hA'|⟨m,oc,k1,k2,k3⟩)
   ·exact g.out n _ b o hob hb hA'
   ·simp only[aD,bN]at k1 k2
    rw[oA]at k1;split at k1
    ·cases k1
    ·rename_i h8;exact h8 (g.apart n m _ _ b hob k1 hb k2)
  ·exact⟨Tr.refl _,g,rfl,fun v hv=>hv⟩
 ·exact⟨Tr.refl _,g,rfl,fun v hv=>hv⟩
def DM{O:aO}{loc:Nat->Loc}{w:World}:∀(cs:List C) {st:St},Good cx.eT X (aD O st loc w)->
  Tr (aD O st loc w) (aD O (yY st cs).2 loc w)/\Good cx.eT X (aD O (yY st cs).2 loc w)/\(yY st cs).2.env=st.env/\
   ∀vs,fH cx.eT (aD O st loc w) cs vs->fH cx.eT (aD O (yY st cs).2 loc w) (yY st cs).1 vs
 |[],st,g=>⟨Tr.refl _,g,rfl,fun vs h=>h⟩
 |c :: cs,st,g=>by
  obtain⟨t1,g1,e1,k1⟩:=Gx g c;obtain⟨t2,g2,e2,k2⟩:=DM cs g1;refine⟨t1.trans t2,g2,e2.trans e1,fun vs h =>?_⟩;cases h with
  |cons h1 h2 h3=>exact .cons ((k1 _ h1).tr t2) h2 (k2 _ (h3.tr t1))
def y5{O:aO}{st:St}{loc:Nat->Loc}{w:World}(g:Good cx.eT X (aD O st loc w))(x:dI) :
  Tr (aD O st loc w) (aD O (E5 st x).2 loc w)/\Good cx.eT X (aD O (E5 st x).2 loc w)/\(E5 st x).2.env=st.env/\
   ∀v,jR cx.eT (aD O st loc w) x v->jR cx.eT (aD O (E5 st x).2 loc w) (E5 st x).1 v:=by
 cases x with
 |one c=>exact Gx g c
 |agg cs=>
  obtain⟨t1,g1,e1,k1⟩:=DM cs g;exact⟨t1,g1,e1,fun v ⟨vs,h1,h2⟩=>⟨vs,h1,k1 _ h2⟩⟩
def Wy{O:aO}{st:St}{loc:Nat->Loc}{w:World}(g:Good cx.eT X (aD O st loc w))(lend:Bool)(x:dI) :
  Tr (aD O st loc w) (aD O (IY lend st x).2 loc w)/\Good cx.eT X (aD O (IY lend st x).2 loc w)/\(IY lend st x).2.env=st.env/\
   ∀v,jR cx.eT (aD O st loc w) x v->jR cx.eT (aD O (IY lend st x).2 loc w) (IY lend st x).1 v:=by
 cases lend with
 |false=>cases x <;> exact y5 g _
 |true=>
  cases x with
  |one c=>exact⟨Tr.refl _,g,rfl,fun v hv=>hv⟩
  |agg cs=>exact y5 g _
def Gy{O:aO}{loc:Nat->Loc}{w:World}(lend:Bool):∀(xs:List dI) {st:St},Good cx.eT X (aD O st loc w)->
  Tr (aD O st loc w) (aD O (xh lend st xs).2 loc w)/\Good cx.eT X (aD O (xh lend st xs).2 loc w)/\(xh lend st xs).2.env=st.env/\
   ∀vs,dK cx.eT (aD O st loc w) xs vs->dK cx.eT (aD O (xh lend st xs).2 loc w) (xh lend st xs).1 vs
 |[],st,g=>⟨Tr.refl _,g,rfl,fun vs h=>h⟩
 |x :: xs,st,g=>by
  obtain⟨t1,g1,e1,k1⟩:=Wy g lend x;obtain⟨t2,g2,e2,k2⟩:=Gy lend xs g1;refine⟨t1.trans t2,g2,e2.trans e1,fun vs h =>?_⟩;cases h with
  |cons h1 h3=>exact .cons ((k1 _ h1).tr t2) (k2 _ (h3.tr t1))
def J2{eT:TypeId}{f:FuncId}{q:Bool}{sp:aL}{lend:Bool}
  (h:∀O st loc w args vs K,(sp args st K).holds->Good eT X (aD O st loc w)->gx O w->dK eT (aD O st loc w) args vs->
   Calls P f vs.toArray w fun e w'=>∃v sv st' loc',e=.returned v/\(K sv st').holds/\st'.env=st.env/\(q=φ->Below w.heap.size w w')/\Good eT X (aD O st' loc' w')/\
    Tr (aD O st loc w) (aD O st' loc' w')/\eK eT (aD O st' loc' w') sv v)
  (O:aO)(st:St)(loc:Nat->Loc)(w:World)(args:List dI)(vs:List Value)(K:SV->St->VC)(hs:(sp (xh lend st args).1 (xh lend st args).2 K).holds)
  (g:Good eT X (aD O st loc w))(hO:gx O w)(ha:dK eT (aD O st loc w) args vs) :
  Calls P f vs.toArray w fun e w'=>∃v sv st' loc',e=.returned v/\(K sv st').holds/\st'.env=st.env/\(q=φ->Below w.heap.size w w')/\Good eT X (aD O st' loc' w')/\
   Tr (aD O st loc w) (aD O st' loc' w')/\eK eT (aD O st' loc' w') sv v:=by
 have g':Good (Cx.mk eT [] [] [] 0 [] [] [] ψ [] []).eT X (aD O st loc w):=g;obtain⟨t1,g1,e1,k1⟩:=Gy lend args g';refine bx (h O _ loc w _ vs K hs g1 hO (k1 _ ha)) ?_;rintro e w' ⟨v,sv,st',loc',h1,h2,h3,h4,h5,h6,h7⟩;exact⟨v,sv,st',loc',h1,h2,h3.trans e1,h4,h5,t1.trans h6,h7⟩
def qm{eT:TypeId}{f:FuncId}{ts rts:List Ty}{pre:HL ts->Prop}{post:HL ts->HL rts->Prop}(h:jj P eT X f ts rts pre post) :
  aW P eT X f φ (yZ ts rts pre post):=by
 refine⟨h.fn,J2 (lend:=nc rts) (sp:=fun args st K=>match qX (nc rts) st ts args with
  |some xs =>.and (pre xs) (.all (HL rts) fun ys =>.imp (post xs ys) (K (wB (sL rts ys)) st))
  |none =>.ff) fun O st loc w args vs K hs g hO ha =>?_⟩
 split at hs
 ·rename_i xs hx
  exact J1 h hx hs.1 (fun ys hy=>hs.2 ys hy) g hO ha
 ·exact hs.elim
def aI{eT:TypeId}{f:FuncId}{ts rts:List Ty}{pre:HL ts->Prop}{g:HL ts->HL rts}(h:jj P eT X f ts rts pre (fun xs ys=>ys=g xs)) :
  aW P eT X f φ (bP ts rts pre g):=by
 refine⟨h.fn,J2 (lend:=nc rts) (sp:=fun args st K=>match qX (nc rts) st ts args with
  |some xs =>.and (pre xs) (K (wB (sL rts (g xs))) st)
  |none =>.ff) fun O st loc w args vs K hs hg hO ha =>?_⟩
 split at hs
 ·rename_i xs hx
  exact J1 h hx hs.1 (fun ys hy=>by rw[hy];exact hs.2) hg hO ha
 ·exact hs.elim
def ahg{B:Cx}{N:Nat}(h:TyOK P B):nU P (uo B [] N) X:=
 {fit:=h.fit,tg:=h.tg,pF:=h.pF,mixed:=h.mixed,arr:=h.arr,EJ:=h.EJ,eqs:=h.eqs,sE:=h.sE,vo:=h.vo,AB:=h.AB,calls:=fun f q sp hl=>by simp[uo,look]at hl}
def adY{B:Cx}{Γ:List (FuncId×(Bool×aL))}{N:Nat}{f:FuncId}{q:Bool}{sp:aL}(h:aW P B.eT X f q sp)(hΓ:nU P (uo B Γ N) X):nU P (uo B ((f,q,sp) :: Γ) N) X:=
 {fit:=hΓ.fit,tg:=hΓ.tg,pF:=hΓ.pF,mixed:=hΓ.mixed,arr:=hΓ.arr,EJ:=hΓ.EJ,eqs:=hΓ.eqs,sE:=hΓ.sE,vo:=hΓ.vo,AB:=hΓ.AB,calls:=fun f' q' sp' hl=>by
   simp only[uo,cX]at hl;split at hl
   ·rename_i e;subst e;cases hl;exact h
   ·exact hΓ.calls f' q' sp' hl}
end
def Ty.plain:Ty->Bool
 |.err|.gu=>ψ
 |.prod a b=>a.plain&&b.plain
 |.slice e=>e.plain
 |_=>φ
def Ty.low:Ty->Bool
 |.slice e=>ao 0 e.size&&e.low
 |.prod a b=>a.low&&b.low
 |_=>φ
section
variable{H:Type}{enc:TypeId×Value->H}{P:Program}{w:World}{base:Nat}{sp:Nat->Bool}{held:Bool}{eT:TypeId}
def Fit.cellsOf{t:TypeId}{ty:Ty}{i:TypeInfo}{d:TypeDesc}(h:Fit P t ty i d):P.cellsOf t=ty.size:=by
 unfold Program.cellsOf;rw[h.info];exact h.size
def Sj{f:TypeId->Ty->Bool}{cs:List Value}{fuel:Nat}
  (ih:∀t ty,f t ty=φ->P.cellsOf t=ty.size/\∀us d ps,ty.plain=φ->ty.low=φ->bd enc P w base sp held fuel t us=ξ (d,ps)->∃x,R eT ty x oD w us) :
  ∀(gs:List Field) (off:Nat) (ty:Ty) (xs:List (DataW H×List MemPlace)),eU f gs off ty=φ->ty.plain=φ->ty.low=φ->
   gs.mapM (fun f=>bd enc P w base sp held fuel f.type ((cs.drop f.offset).take (P.cellsOf f.type)))=ξ xs->cs.length=off+ty.size->∃x,R eT ty x oD w (cs.drop off):=by
 intro gs;induction gs with
 |nil=>
  intro off ty xs h hp hs hm hl;cases ty <;> simp[eU]at h;refine⟨(),?_⟩;show cs.drop off=[];exact List.drop_eq_nil_of_le (by simp[Ty.size]at hl;omega)
 |cons g gs ihg=>
  intro off ty xs h hp hs hm hl;cases ty <;> simp[eU]at h;rename_i a b;obtain⟨⟨⟨h1,h2⟩,h3⟩,h4⟩:=h;simp only[Ty.plain,ae]at hp;simp only[Ty.size]at hl;rw[de]at hm;obtain⟨k1,k2⟩:=ih _ _ h2;subst h1;rw[k1]at hm;cases hx:bd enc P w base sp held fuel g.type ((cs.drop g.offset).take a.size)with
  |none=>simp[hx]at hm
  |some y=>
   cases hxs:gs.mapM (fun f=>bd enc P w base sp held fuel f.type ((cs.drop f.offset).take (P.cellsOf f.type)))with
   |none=>simp[hx,hxs]at hm
   |some ys=>
    simp only[Ty.low,ae]at hs;obtain⟨x,rx⟩:=k2 _ y.1 y.2 hp.1 hs.1 hx;obtain⟨z,rz⟩:=ihg _ _ _ h4 hp.2 hs.2 hxs ω;refine⟨(x,z),_,_,?_,rx,rz⟩;rw[<-List.drop_drop,List.take_append_drop]
def Wz:∀(n:Nat) (t:TypeId) (ty:Ty),fits P n t ty=φ->P.cellsOf t=ty.size/\∀fuel us d ps,ty.plain=φ->ty.low=φ->
  bd enc P w base sp held fuel t us=ξ (d,ps)->∃x,R eT ty x oD w us:=by
 intro n;induction n with
 |zero=>intro t ty h;simp[fits]at h
 |succ n ih=>
  intro t ty h;obtain⟨m,i,dsc,hm,fit,hsh⟩:=nx h;cases hm;refine⟨fit.cellsOf,fun fuel us d ps hp hs hd =>?_⟩;cases fuel with
  |zero=>simp[bd]at hd
  |succ fuel=>
   unfold bd at hd;rw[fit.jZ]at hd;cases ty with
   |bool=>
    cases dsc <;> simp[cV]at hsh;split at hd
    case h_1 _ _ b _=>exact⟨b,rfl⟩
    all_goals simp_all
   |int k=>
    cases dsc <;> simp[cV]at hsh;subst hsh;split at hd
    case h_2 _ _ k1 k2 x h0=>
     cases h0;split at hd
     ·rename_i h1
      obtain⟨rfl,h1⟩:=h1;simp only[Lit.wf,ae,decide_eq_true_eq]at h1;exact⟨x,rfl,h1⟩
     ·cases hd
    all_goals simp_all
   |str=>
    cases dsc <;> simp[cV]at hsh;split at hd
    case h_4 _ _ s _=>
     split at hd
     ·rename_i h1
      refine⟨s.data.toList,?_,?_⟩
      ·rw[dh]
      ·unfold maxLen at h1
       unfold aG;rw[b8];exact h1
     ·cases hd
    all_goals simp_all
   |err=>simp[Ty.plain]at hp
   |gu=>simp[Ty.plain]at hp
   |unit=>
    cases dsc <;> simp[cV]at hsh;rename_i fs;simp only at hd;split at hd
    ·rename_i hl
     rw[fit.cellsOf]at hl;refine⟨(),?_⟩;exact dr.1 hl
    ·cases hd
   |prod a b=>
    cases dsc <;> simp[cV]at hsh;rename_i fs;simp only at hd;split at hd
    ·rename_i hl
     rw[fit.cellsOf]at hl;cases hxs:fs.toList.mapM (fun f=>bd enc P w base sp held fuel f.type ((us.drop f.offset).take (P.cellsOf f.type)))with
     |none=>rw[hxs]at hd;simp at hd
     |some xs=>
      obtain⟨x,hx⟩:=Sj (fun t ty hf=>⟨(ih t ty hf).1,(ih t ty hf).2 fuel⟩) _ _ _ _ hsh hp hs hxs ω;exact⟨x,by simpa using hx⟩
    ·cases hd
   |slice e=>
    cases dsc <;> simp[cV]at hsh;rename_i te;simp only[Ty.low,ae]at hs;have hpos:=oS hs.1;obtain⟨hce,hel⟩:=ih te e hsh;split at hd
    case h_7=>exact⟨[],_,rfl,by simp[aG],.inl ⟨rfl,_,_,rfl⟩⟩
    case h_8 _ _ te' b l c h0=>
     cases h0;simp only at hd;split at hd
     case isFalse=>cases hd
     rename_i hcond;obtain⟨hb,hlc,hcm⟩:=hcond;obtain⟨es,hes,_⟩:=di.1 hd;rw[hce]at hes;have hlen:=mapM_some_length hes;simp only[List.length_range]at hlen;by_cases hl0:l=0
     ·subst hl0
      exact⟨[],_,rfl,by simp[aG],.inl ⟨rfl,_,_,rfl⟩⟩
     have hspot:b.spot=χ:=by
      have h1:=mapM_some_get hes 0 0 (by rw[List.getElem?_range ω]);rw[List.getElem?_eq_getElem ω]at h1;obtain⟨us,hu,hd1⟩:=di.1 h1;obtain⟨_,q1,q2⟩:=World.cells?_some hu;have q3:=q2 0 hpos;rw[List.getElem?_eq_getElem ω]at q3;have e0:(b.add (0*e.size)).add 0=b:=by simp[Addr.add]
      rw[e0]at q3;unfold World.cell? at q3;split at q3
      ·cases hb0:b.spot with
       |none=>rfl
       |some k=>rw[hb0]at q3;simp at q3
      ·cases q3
     obtain⟨bb,oo,so⟩:=b;simp only at hspot;subst hspot;have hget:∀i,i<l->∃x us,R eT e x oD w us/\Row oD w bb (oo+i*e.size) us:=by
      intro i hi;have h1:=mapM_some_get hes i i (by simp[hi]);rw[List.getElem?_eq_getElem ω]at h1;obtain⟨us,hu,hd1⟩:=di.1 h1;obtain⟨_,q1,q2⟩:=World.cells?_some hu;obtain⟨x,hx⟩:=hel fuel us (es[i]' ω).1 (es[i]' ω).2 hp hs.2 hd1;refine⟨x,us,hx,fun j u hj=>⟨?_,id⟩⟩;have hjl:j<us.length:=by
       rcases a7 j us.length with h|h
       ·exact h
       ·rw[List.getElem?_eq_none h]at hj;cases hj
      have:=q2 j ω;rw[bt,bt]at this;rw[this,hj]
     let xs:List (D e):=(bz l).map fun i=>if h:i<l then(hget i h).choose else cD e
     have hxl:xs.length=l:=by simp[xs]
     have hxi:∀i y,xs[i]?=ξ y->∃us,R eT e y oD w us/\Row oD w bb (oo+i*e.size) us:=by
      intro i y hy;have hi:i<l:=by
       rcases a7 i l with h|h
       ·exact h
       ·rw[List.getElem?_eq_none ω]at hy;cases hy
      have:xs[i]?=ξ (hget i hi).choose:=by simp[xs,hi]
      rw[this]at hy;cases hy;exact(hget i hi).choose_spec
     refine⟨xs,_,rfl,?_,.inr ⟨bb,oo,c,?_,?_,hxi⟩⟩
     ·rw[hxl];unfold maxLen at hcm;unfold aG;omega
     ·rw[hxl]
     ·rw[hxl];exact hlc
    all_goals simp_all
def adZ{n:Nat}{t:TypeId}{ty:Ty}(hf:fits P n t ty=φ)(hp:ty.plain=φ)(hlow:ty.low=φ){r:Reach}{b:Nat}{v:Value}(hval:cm P w r b t v){d:DataW H}{ps:List MemPlace}
  (hd:DataW.Trod enc P w base sp held t v d ps):∃x,VR eT ty x oD w v:=by
 obtain⟨m,i,dsc,hm,fit,hsh⟩:=nx hf;obtain⟨fuel,hd⟩:=hd;have key:∃x,R eT ty x oD w v.cells.toList:=(Wz (eT:=eT) n t ty hf).2 fuel _ _ _ hp hlow hd
 unfold cm at hval;rw[fit.jZ]at hval;have one:ty.one=φ->b4 P w r b t v->(v.cells.toList=[v])->∃x,VR eT ty x oD w v:=by
  intro h1 h2 h3;rw[h3]at key;obtain⟨x,hx⟩:=key;exact⟨x,VR.dF h1 hx⟩
 have agg:ty.one=ψ->(∃cs,v=.agg cs/\cs.size=P.cellsOf t/\Row.okWide P w r b t cs)->∃x,VR eT ty x oD w v:=by
  rintro h1 ⟨cs,rfl,_,ts,_,_,h2⟩;obtain⟨x,hx⟩:=key;refine⟨x,?_⟩;unfold VR;rw[ε (by simp[h1])];exact⟨cs,rfl,hx⟩
 cases ty with
 |err=>simp[Ty.plain]at hp
 |gu=>simp[Ty.plain]at hp
 |prod a b=>cases dsc <;> simp[cV]at hsh;exact agg rfl hval
 |unit=>cases dsc <;> simp[cV]at hsh;exact agg rfl hval
 |bool=>
  cases dsc <;> simp[cV]at hsh;refine one rfl hval ?_;cases v <;> simp[b4,cn,fit.jZ,bw]at hval ⊢
 |int k=>
  cases dsc <;> simp[cV]at hsh;refine one rfl hval ?_;cases v <;> simp[b4,cn,fit.jZ,bw]at hval ⊢
 |str=>
  cases dsc <;> simp[cV]at hsh;refine one rfl hval ?_;cases v <;> simp[b4,cn,fit.jZ,bw]at hval ⊢
 |slice e=>
  cases dsc <;> simp[cV]at hsh;refine one rfl hval ?_;cases v <;> simp[b4,cn,fit.jZ,bw]at hval ⊢
def xX(P:Program)(n:Nat):List TypeId->List Ty->Bool
 |[],[]=>φ
 |t :: ts,ty :: tys=>fits P n t ty&&ty.plain&&ty.low&&xX P n ts tys
 |_,_=>ψ
def ZB{n:Nat}{r:Reach}{b:Nat}:∀(ts:List TypeId) (tys:List Ty) (vs:List Value) (ds:List (DataW H)) (ps:List MemPlace),xX P n ts tys=φ->
  (∀(j:Nat) t v,ts[j]?=ξ t->vs[j]?=ξ v->cm P w r b t v)->bf enc P w base sp held ts vs ds ps->∃xs,nM eT oD w tys xs vs:=by
 intro ts;induction ts with
 |nil=>
  intro tys vs ds ps hf hv h;cases tys <;> simp[xX]at hf;cases vs <;> cases ds <;> simp[bf]at h;exact⟨(),rfl⟩
 |cons t ts ih=>
  intro tys vs ds ps hf hv h;cases tys <;> simp[xX]at hf;rename_i ty tys;obtain⟨⟨⟨h1,h2⟩,h3⟩,h4⟩:=hf;cases vs <;> cases ds <;> simp[bf]at h;rename_i v vs d ds;obtain⟨p,hp,q,hq,_⟩:=h;obtain⟨x,hx⟩:=adZ (eT:=eT) h1 h2 h3 (hv 0 t v rfl rfl) hp;obtain⟨xs,hxs⟩:=ih tys vs ds q h4 (fun j t' v' h1 h2=>hv (j+1) t' v' h1 h2) hq;cases tys with
  |nil=>exact⟨x,v,by rw[show vs=[]from hxs],hx⟩
  |cons ty' tys=>exact⟨(x,xs),v,vs,rfl,hx,hxs⟩
def WA(hl:laidOutB P=φ){W W':World}(hb:Below W.heap.size W W'):∀(ts:List TypeId) (vs:List Value) (ds:List (DataW H)) (ps:List MemPlace),(ts.all fun t=>P.readableRec t&&ao t P.types.size)=φ->
  bf enc P W 0 (fun _=>φ) φ ts vs ds ps->(∀x∈ps,x.block<W.heap.size)->bf enc P W' 0 (fun b=>ρ (b<W.heap.size)) φ ts vs ds ps:=by
 intro ts;induction ts with
 |nil=>intro vs ds ps _ h _;cases vs <;> cases ds <;> simp[bf]at h ⊢;exact h
 |cons t ts ih=>
  intro vs ds ps hr h hlt;simp only[db,ae]at hr;cases vs <;> cases ds <;> simp only[bf]at h ⊢;rename_i v vs d ds;obtain⟨p,q,hp,hq,rfl⟩:=h;exact⟨p,q,WideElems.Trod_stays hl hr.1.1 (oS hr.1.2) hp (fun x hx=>hb.same (hlt x (by simp[hx]))) (fun x hx=>by simpa using hlt x (by simp[hx])),ih vs ds q hr.2 hq (fun x hx=>hlt x (by simp[hx])),rfl⟩
def Ou:∀{ts:List TypeId} {vs:List Value} {ds:List (DataW H)} {ps:List MemPlace},bf enc P w base sp held ts vs ds ps->vs.length=ts.length/\ds.length=ts.length
 |[],[],[],_,_=>⟨rfl,rfl⟩
 |_ :: _,_ :: _,_ :: _,_,⟨_,_,_,h,_⟩=>by simp[Ou h]
def ZC{X:Ext}{C:Checked}{f:FuncId}{fn:Func}{s:ChangeSpec}{tys:List Ty}{pre:HL tys->Prop}(hs:s.vars=[])(hl:laidOutB C.prog=φ)
  (hsp:∀ds:List (DataW H),ds.length=tys.length->s.fn H ds= {results:=[.lit (.bool φ)],args:=ds})
  {n:Nat}(hf:xX C.prog n fn.params.toList tys=φ)(hr:(fn.params.toList.all fun t=>C.prog.readableRec t&&ao t C.prog.types.size)=φ)
  {tb:TypeId}(hres:fn.resultTypes= #[tb])(hb:C.prog.underlying tb=ξ .bool)
  (h:jj C.prog eT X f tys [.bool] pre (fun _ y=>y=φ))
  {W:World}{base:Nat}{args:Array Value}{ds gs:List (DataW H)}{before:List MemPlace}
  (hval:∀(j:Nat) t v,fn.params[j]?=ξ t->args[j]?=ξ v->cm C.prog W .any base t v)
  (hW:DataW.Whole enc C.prog fn.params.toList s.vars ψ W args.toList ds gs before)
  (hG:X.AX W)(hpre:∀xs,nM eT oD W tys xs args.toList->pre xs) :
  Calls C.prog f args W fun e W'=>∃v,e=.returned v/\s.post enc C.prog fn ψ φ ψ ψ W args v W':=by
 have hW0:=hW;obtain⟨p,q,hA,hV,rfl,_,_⟩:=hW;rw[hs]at hV;obtain⟨rfl,rfl⟩:gs=[]/\q=[]:=by cases gs <;> simp[DataW.TrodVars]at hV;exact⟨rfl,hV⟩
 obtain⟨xs,hxs⟩:=ZB (eT:=eT) _ _ _ _ _ hf (fun j t v h1 h2=>hval j t v (by rw[<-Array.getElem?_toList];exact h1) (by rw[<-Array.getElem?_toList];exact h2)) hA;have:=h.ok oD W xs args.toList hG (fun _ _ h=>h.elim) hxs (hpre xs hxs);rw[dh]at this;refine this.mono ?_;rintro e W' ⟨us,ys,rfl,rfl,hr',hbel⟩;obtain⟨u,rfl,hu⟩:=hr';have hu:u=.bool φ:=by
  have:=VR.one rfl hu;simpa[R]using this
 subst hu;have hlen:ds.length=tys.length:=by
  have h1:=hxs.length;have h2:=Ou hA;omega
 simp only[cp]at hW0 ⊢;have hlt:∀x∈p,x.block<W.heap.size:=hW0.lt
 refine⟨_,rfl,ds,[],p,[],p,[],hW0,?_,?_,?_,hbel.frame _,fun hh=>by cases hh⟩
 ·rw[cp,hsp ds hlen,hres]
  exact⟨[],[],shut_bool hb φ,rfl,rfl⟩
 ·rw[cp,hsp ds hlen]
  exact WA hl hbel _ _ _ _ hr hA hlt
 ·rw[cp,hsp ds hlen,hs]
  rfl
end
def ζ{v:VC}{p:Prop}(e:v.holds=p)(h:p):v.holds:=by rw[e];exact h
section
variable{A B:Prop}
theorem iD{p:Prop}[Decidable p](f:p->A)(g:¬p->B):(decide p=φ->A)/\(decide p=ψ->B):=⟨fun h=>f (of_decide_eq_true h),fun h=>g (of_decide_eq_false h)⟩
def iL{a b:Int}(f:a<b->A)(g:b<=a->B):(ρ (a<b)=φ->A)/\(ρ (a<b)=ψ->B):=iD f fun h=>g (Int.not_lt.1 h)
def iE{a b:Int}(f:a<=b->A)(g:b<a->B):(ρ (a<=b)=φ->A)/\(ρ (a<=b)=ψ->B):=iD f fun h=>g (Int.not_le.1 h)
def iB{b:Bool}(f:b=ψ->A)(g:b=φ->B):((!b)=φ->A)/\((!b)=ψ->B):=⟨fun h=>f (bc b▸h),fun h=>g (Bool.not_eq_false' b▸h)⟩
theorem iQ{α:Type}[BEq α][LawfulBEq α]{a b:α}(f:a=b->A)(g:¬a=b->B):((a == b)=φ->A)/\((a == b)=ψ->B):=⟨fun h=>f (eq_of_beq h),fun h=>g fun e=>by rw[e,beq_self_eq_true]at h;cases h⟩
theorem iN{α:Type}[BEq α][LawfulBEq α]{a b:α}(f:¬a=b->A)(g:a=b->B):((a != b)=φ->A)/\((a != b)=ψ->B):=
 ⟨fun h=>f fun e=>(by rw[e,bne_self_eq_false]at h;cases h),fun h=>g (by simpa using h)⟩
end
def ajU:Ext where
 rel k t x l w:=match k with
  |0=>mU t x l w
  |1=>w8 t x l w
  |2=>yx t x l w
  |_=>False
 inside {k t x l w} h:=by
  match k,h with
  |0,h=>exact mU.inside h
  |1,h=>exact w8.inside h
  |2,h=>exact yx.inside h
 ptr {k t x l w} hk h:=by
  match k,hk,h with
  |0,hk,_=>omega
  |1,hk,_=>omega
  |2,_,h=>obtain⟨rfl,b,p,v,h⟩:=h;exact⟨_,h.lv⟩
 deep:=Iff.rfl
 map:=Iff.rfl
 Y0:=Iff.rfl
 frame {k t x l w w'} h hb:=by
  match k,h with
  |0,h=>exact mU.frame h hb
  |1,h=>exact w8.frame h hb
  |2,h=>exact yx.frame h hb
 AX _:=True
 JA:=[]
 NC _ _ hb:=by cases hb
 FY _ _:=trivial
def codeOf(fn:Func):Code:=fn.body.getD .skip
def cH(B:Cx)(Γ:List (FuncId×(Bool×aL)))(fn:Func)(anns:cP)(ts rts:List Ty)(post:HL ts->HL rts->Prop)(xs:HL ts):VC:=
 Un B Γ fn.ntmps anns fn.results.toList (codeOf fn) ts rts post xs
def rY(fn:Func)(n:Nat):Bool:=fn.body.isSome&&!(fn.name == "runtime.NumGoroutine")&&Nat.ble n fn.ntmps
def bH(P:Program)(B:Cx)(X:Ext)(Γ:List (FuncId×(Bool×aL))):Prop:=∀N,nU P (uo B Γ N) X
section
variable{P:Program}{B:Cx}{X:Ext}{Γ:List (FuncId×(Bool×aL))}
def bO{f:FuncId}{fn:Func}{ts rts:List Ty}{pre:HL ts->Prop}{post:HL ts->HL rts->Prop}(hok:bH P B X Γ)(hf:P.funcs[f]?=ξ fn)(hc:rY fn ts.length=φ)
  (anns:HL ts->cP)(h:∀xs,ZA ts xs->pre xs->(cH B Γ fn (anns xs) ts rts post xs).holds):jj P B.eT X f ts rts pre post:=by
 simp only[rY,ae,bc]at hc;obtain⟨⟨h1,h2⟩,h3⟩:=hc;refine Wx (hok fn.ntmps) hf (c:=codeOf fn) ?_ h2 rfl anns (dd h3) h;unfold codeOf;cases hb:fn.body with
 |none=>rw[hb]at h1;cases h1
 |some c=>rfl
def bK(h:TyOK P B):bH P B X []:=fun _=>ahg h
def aM{f:FuncId}{q:Bool}{sp:aL}(h:aW P B.eT X f q sp)(hΓ:bH P B X Γ):bH P B X ((f,q,sp) :: Γ):=fun N=>adY h (hΓ N)
def gy(B:Cx)(l:List Nat):Cx:={B with hint:=l}
def bH.hint{l:List Nat}(h:bH P B X Γ):bH P (gy B l) X Γ:=fun N=>
 {fit:=(h N).fit,tg:=(h N).tg,pF:=(h N).pF,mixed:=(h N).mixed,arr:=(h N).arr,EJ:=(h N).EJ,eqs:=(h N).eqs,sE:=(h N).sE,vo:=(h N).vo,AB:=(h N).AB,calls:=(h N).calls}
def vC{α:Type}{l:List (Nat×α)}{n:Nat}{x:α}(h:look l n=ξ x):(n,x)∈l:=by
 induction l with
 |nil=>cases h
 |cons p r ih=>
  obtain⟨m,y⟩:=p;rw[cX]at h;split at h
  ·rename_i e;subst e;cases h;simp
  ·exact List.mem_cons_of_mem _ (ih h)
def ZD(P:Program)(B:Cx)(n:Nat):Bool:=
 (B.τ.all fun p=>fits P n p.1 p.2)&&
 (match P.underlying B.eT with|some (.int .i64)=>φ|_=>ψ)&&
 (match P.info? B.eT with|some i=>(match i.zero with|some (.int .i64 0)=>φ|_=>ψ)|none=>ψ)&&
 P.follows .mixedOrders&&
 (B.EI.all fun p=>match P.underlying p.1 with|some (.array m e)=>ab m p.2.1&&ab e p.2.2|_=>ψ)&&
 (B.EI.all fun p=>match look B.τ p.2.2 with
  |some e=>(match P.info? p.1 with
   |some i=>(match i.zero with
    |some z=>sy e p.2.1 z.cells.toList
    |none=>ψ)
   |none=>ψ)
  |none=>φ)&&
 B.eqs.all (V6 P)&&B.sE.all (NJ P)&&
 (B.vo.all fun p=>match P.underlying p.1 with
  |some (.map k e)=>ab k p.2.1&&ab e p.2.2&&(match P.underlying p.2.1 with|some .string=>φ|_=>ψ)&&
   (match P.info? p.2.2 with
    |some i=>(match i.zero with|some (.agg _)=>φ|_=>ψ)
    |none=>ψ)
  |_=>ψ)&&
 (B.AB.all fun p=>match P.info? p.1 with
  |some i=>(match i.zero with
   |some (.agg cs)=>(match cs.toList with
    |[.pointer χ,.slice χ 0 0]=>φ
    |_=>ψ)
   |_=>ψ)
  |none=>ψ)
def ahh{n:Nat}(h:ZD P B n=φ):TyOK P B:=by
 simp only[ZD,ae,b3]at h;obtain⟨⟨⟨⟨⟨⟨⟨⟨⟨h1,h2⟩,h3⟩,h4⟩,h5⟩,h6⟩,h7⟩,h8⟩,h9⟩,h10⟩:=h;refine⟨fun t ty hl=>⟨n,h1 _ (vC hl)⟩,?_,?_,h4,fun t ht=>h7 t (yP ht),fun t ht=>h8 t (yP ht),fun t m e hl =>?_,fun t k e hl =>?_,fun t e hl =>?_,fun t m te e hl he =>?_⟩
 ·split at h2
  ·assumption
  ·cases h2
 ·split at h3
  ·rename_i i hi
   refine⟨i,hi,?_⟩;split at h3
   ·assumption
   ·cases h3
  ·cases h3
 ·have:=h5 _ (vC hl)
  simp only at this;split at this
  ·rename_i m' e' hu
   simp only[ae]at this;rw[hu,ag this.1,ag this.2]
  ·cases this
 ·have:=h9 _ (vC hl)
  simp only at this;split at this
  ·rename_i k' e' hu
   simp only[ae]at this;obtain⟨⟨⟨e1,e2⟩,e3⟩,e4⟩:=this;rw[hu,ag e1,ag e2];refine⟨rfl,?_,?_⟩
   ·split at e3
    ·assumption
    ·cases e3
   ·split at e4
    ·rename_i i hi
     split at e4
     ·rename_i cs hz;exact⟨i,cs,hi,hz⟩
     ·cases e4
    ·cases e4
  ·cases this
 ·have:=h10 _ (vC hl)
  simp only at this;split at this
  ·rename_i i hi
   split at this
   ·rename_i cs hz
    split at this
    ·rename_i hr
     exact⟨i,hi,by rw[hz];congr 2;exact aj.1 hr⟩
    ·cases this
   ·cases this
  ·cases this
 ·have:=h6 _ (vC hl)
  simp only[he]at this;split at this
  ·rename_i i hi
   split at this
   ·rename_i z hz
    exact⟨i,z,hi,hz,this⟩
   ·cases this
  ·cases this
end
def sM:Nat->List dI->List (Nat×SV)
 |_,[]=>[]
 |k,a :: r=>(k,.s a) :: sM (k+1) r
def iI(B:Cx)(Γ:List (FuncId×(Bool×aL)))(fn:Func)(anns:cP):aL:=fun args st K=>
 match Nat.ble args.length fn.ntmps with
 |true=>Ww (uo B Γ fn.ntmps) anns fn.results.toList (codeOf fn) {env:=sM 0 args,aK:=st.aK,next:=st.next} fun vs st'=>K (wB vs) {st' with env:=st.env}
 |false =>.ff
def xk{eT:TypeId}{S:bT}:∀{args:List dI} {vs:List Value} (k:Nat),dK eT S args vs->∀t sv,look (sM k args) t=ξ sv->k<=t/\∃v,vs[t-k]?=ξ v/\eK eT S sv v:=by
 intro args;induction args with
 |nil=>intro vs k _ t sv h;simp[sM,look]at h
 |cons a r ih=>
  intro vs k hr t sv h;cases hr with
  |cons h1 h2=>
   simp only[sM,cX]at h;split at h
   ·rename_i e
    cases h;subst e;exact⟨ai _,_,ς,h1⟩
   ·rename_i e
    obtain⟨k1,v,k2,k3⟩:=ih (k+1) h2 t sv h;refine⟨ω,v,?_,k3⟩;rw[show t-k=(t-(k+1))+1 by omega];simpa using k2
def fF{P:Program}{B:Cx}{X:Ext}{Γ:List (FuncId×(Bool×aL))}(hok:bH P B X Γ){f:FuncId}{fn:Func}(hf:P.funcs[f]?=ξ fn)(hg:rY fn 0=φ)(anns:cP) :
  aW P B.eT X f ψ (iI B Γ fn anns):=by
 simp only[rY,ae,bc]at hg;obtain⟨⟨h1,h2⟩,_⟩:=hg;obtain⟨c,hc⟩:=Option.isSome_iff_exists.1 h1;refine⟨⟨fn,hf,by rw[hc];rfl,h2⟩,fun O st loc w args vs K hK g hO ha =>?_⟩;unfold iI at hK;split at hK
 case h_2=>exact hK.elim
 rename_i hlen;have hlen:=dd hlen;have hcode:codeOf fn=c:=by unfold codeOf;rw[hc];rfl
 rw[hcode]at hK;have:=xj (X:=X) (hok fn.ntmps) hf hc (by rfl) anns (O:=O) (loc:=loc) (w:=w) (args:=vs.toArray)
  (st:={env:=sM 0 args,aK:=st.aK,next:=st.next}) (by rw[bu,<-ha.len];exact hlen) g hO
  (fun t sv h=>by
   obtain⟨_,v,k1,k2⟩:=xk 0 ha t sv h;exact⟨v,by simpa using k1,k2⟩) hK
 refine this.mono ?_;rintro e w' ⟨rs,us,st',loc',he,hk,hr,g',tr⟩;exact⟨_,_,_,loc',he,hk,rfl,(fun h=>by cases h),g',tr,By hr⟩
def WB(st:St)(t k:Nat):Nat:=
 match look st.env t with
 |some (.s (.one (.fn _ caps)))=>caps.getD k 0
 |_=>0
def ad0(ty:Ty)(st:St)(n:Nat):D ty:=
 match look st.aK n with
 |some (.cells _ cs)=>match po ty cs with
  |some (x,_)=>x
  |none=>cD ty
 |_=>cD ty
end Go.Vg

