/- A part of the proof that the law TopCrashCard holds of the given program: facts that are used there. -/
import Derived.Test.YtgokjhhcfemnhacGreatDoorPart0
import Derived.Maps.RangeRun
import Derived.Laws.BytesString
import Derived.Lib.ConvBytes
import Derived.Deep.LoopGhost
import Derived.ProofKit
import Derived.KernelRfl
set_option linter.unusedSimpArgs false
set_option linter.unusedVariables false
set_option linter.defProp false
noncomputable section
open True renaming intro->aa
open Nat renaming beq->ab,eq_of_beq_eq_true->ah,le_refl->ai,blt->aq,zero_add->ay,lt_of_lt_of_le->az,lt_or_ge->a8,beq_refl->bh,add_mul->b9,testBit_two_pow->cd,testBit_or->cf,beq_eq->ch,testBit_and->cj,mul_le_mul_right->cu,mul_one->cy,add_zero->cz,one_shiftLeft->c7,eq_of_testBit_eq->j5,le_of_ble_eq_true->kN
open List renaming length->ad,mem_cons->ag,mem_of_getElem?->aw,mem_append->ba,length_append->bj,size_toArray->bw,range->b3,length_map->ca,all_eq_true->cg,append_nil->cp,filter_cons->cr,foldl_cons->cw,all_cons->dn,map_congr_left->dT,mapM_cons->ed,length_eq_zero_iff->fr,replicate->hI,length_singleton->hX,mem_range->ix,length_cons->j6,range'_succ->j7,range_eq_range'->kc,mem_filterMap->kF
open Bool renaming and_eq_true->ae,false_eq_true->a7,not_eq_true'->bd,eq_iff_iff->bm,not_true->ct,or_eq_true->c8,and_true->kl
open Go.Sem renaming run_bind->af,run_pure->ak
open Array renaming toList_inj->aj,getD_eq_getD_getElem?->bc,length_toList->b8,toArray_toList->eh,toList_push->e7,size_append->gf,toList_map->hJ,replicate->kh
open Go.Region renaming binds->ao,wanted->au,ready->av,noSelect->hY
open Go.Result renaming andThen_ok->ar
open Go.Instr renaming findNow->ax,loadAt->ck,alloc->c6,sureAddr->ef,lookup->ew,mapUpdate->ez,keyThatStays->e5,makeFunc->hL
open Go.DataW renaming trod->bf,TrodAll->bg
open Go.Oper renaming wp->bk,upon->dc,wp_mono->dd
open Go.MapKept renaming run_getObj_map->bo,run_findKey->bp,run_setObj_map->b5,bytes_beq->et
open Option renaming map_some->bq,getD_some->br,bind_eq_some_iff->ek,map_eq_some_iff->kk
open Go.ChangeMaps renaming setBlock->bt
open Go.Addr renaming add_lit->bu
open Go.Value renaming cells->bx,okWide->cm
open Go.Calls renaming mono->bz
open Go.Cell renaming okWide->b4,ok->cn
open Int.ofNat renaming inj->b6
open Go.Builtin renaming append_->b7,delete_->cq,zeroCells->fz,max2->gE,min2->hE,max_->hM,min_->hP
open Go.IntKind renaming u8->cb
open Option.some renaming injEq->dp
open Int renaming lt_add_one_of_le->e6
namespace Go.Vg
open Go.RowKit
def qc(e:Ty):List (D (ft e))->List UInt8->Bool
 |[],_=>false
 |y :: r,k=>if y.1=k then true else qc e r k
def uT(e:Ty):List (D (ft e))->List UInt8->D e
 |[],_=>cE e
 |y :: r,k=>if y.1=k then y.2.1 else uT e r k
def jD(e:Ty):List (D (ft e))->List UInt8->D e->Int->List (D (ft e))
 |[],k,v,c=>[(k,v,c,())]
 |y :: r,k,v,c=>if y.1=k then(k,v,y.2.2) :: r else y :: jD e r k v c
def jE(e:Ty):List (D (ft e))->List UInt8->List (D (ft e))
 |[],_=>[]
 |y :: r,k=>if y.1=k then r else y :: jE e r k
def rN(e:Ty)(es:List (D (ft e)))(k:List UInt8)(c:Int):Int:=if qc e es k=true then c else c+1
def Ei(e:Ty):List (D (ft e))->Int->D (ft e)
 |[],_=>cE (ft e)
 |y :: r,s=>if y.2.2.1=s then y else Ei e r s
def wj(e:Ty):List (D (ft e))->Int->Bool
 |[],_=>false
 |y :: r,s=>if y.2.2.1=s then true else wj e r s
def tf(e:Ty)(es:List (D (ft e)))(seen:List Int):List (D (ft e)):=es.filter fun y =>!(seen.contains y.2.2.1)
def tg(l:List Int):Int:=l.getLastD 0
def n7(cx:Cx)(st:St)(t:TypeId)(c:C)(K:(e:Ty)->Nat->D (fP e)->VC):VC:=
 match c with
 |.eL n=>match look cx.mQ t with
  |some (_,te)=>match look cx.τ te,look st.aC n with
   |some e,some (.ext 1 t' x)=>match h:Ty.beq t' (fP e),e.one with
    |true,false=>K e n (bR h x)
    |_,_ =>.ff
   |_,_ =>.ff
  |none =>.ff
 |_ =>.ff
def MG:Ty->Option Ty
 |.prod (.slice (.prod _ (.prod e _))) _=>some e
 |_=>none
def wk(st:St)(c:C)(K:(e:Ty)->Nat->List C->List Int->Int->D (fP e)->VC):VC:=
 match c with
 |.eL k=>match look st.aC k with
  |some (.iter [.eL n] seen cl)=>match look st.aC n with
   |some (.ext 1 t' x)=>match MG t' with
    |some e=>match h:Ty.beq t' (fP e)with
     |true=>K e k [.eL n] seen cl (bR h x)
     |false =>.ff
    |none =>.ff
   |_ =>.ff
  |_ =>.ff
 |_ =>.ff
def GW(st:St)(c:C)(K:SV->St->VC):VC:=
 wk st c fun e k cs seen cl d =>.and (d.2.1=cl) (.both
  (.imp (tf e d.1 seen=[]) (K (.jy [.one (.lit false)]) st))
  (.all (D (ft e)) fun y =>.imp (y∈tf e d.1 seen) (K (.jy [.one (.lit true),.one (.d .str y.1),.one (.d e y.2.1)]) (setObj st k (.iter cs (seen++[y.2.2.1]) cl)))))
def wm(cx:Cx)(st:St)(o:Oper)(K:SV->St->VC):Option VC:=
 match o.op with
 |.makeMap t none=>some (match look cx.mQ t with
  |some (_,te)=>match look cx.τ te with
   |some e=>match e.dI with
    |true=>K (.s (.one (.eL st.next))) (fresh st (.ext 1 (fP e) ([],0,())))
    |false =>.ff
   |none =>.ff
  |none =>.ff)
 |.lookup t m x true=>some (n7 cx st t (di st.env m) fun e _ d=>match pq .str (di st.env x)with
  |some k=>K (.jy [.one (.d e (uT e d.1 k)),.one (.d .bool (qc e d.1 k))]) st
  |none =>.ff)
 |.mapUpdate t m x v=>some (n7 cx st t (di st.env m) fun e n d=>match pq .str (di st.env x),nq e (nA st.env v)with
  |some k,some y =>.and (d.1.length<aN) (K (.s (.one .any)) (setObj st n (.ext 1 (fP e) (jD e d.1 k y d.2.1,rN e d.1 k d.2.1,()))))
  |_,_ =>.ff)
 |.range t m=>some (n7 cx st t (di st.env m) fun _ n d=>K (.s (.one (.eL st.next))) (fresh st (.iter [.eL n] [] d.2.1)))
 |.next it false=>some (GW st (di st.env it) K)
 |.entry it=>some (wk st (di st.env it) fun e _ _ seen cl d =>.and (d.2.1=cl) (.and (seen≠[]) (.and (wj e d.1 (tg seen)=true)
   (K (.jy [.one (.d .str (Ei e d.1 (tg seen)).1),.one (.d e (Ei e d.1 (tg seen)).2.1)]) st))))
 |.call c=>match c.callee with
  |.builtin .delete=>match c.args.toList,c.argTypes.toList with
   |[m,x],t :: _=>some (n7 cx st t (di st.env m) fun e n d=>match pq .str (di st.env x)with
    |some k=>K (.s (.one .any)) (setObj st n (.ext 1 (fP e) (jE e d.1 k,d.2.1,())))
    |none =>.ff)
   |_,_=>some .ff
  |.builtin .len=>match c.args.toList,c.argTypes.toList with
   |[x],[t]=>match look cx.mQ t with
    |some _=>some (n7 cx st t (di st.env x) fun _ _ d=>K (.s (.one (.d (.int .i64) (d.1.length:Int)))) st)
    |none=>none
   |_,_=>none
  |_=>none
 |_=>none
def pA{e:Ty}{e1 e2:TypeId}{x:D e}{A A':aD}{w w':World}{v:Value}(hs:e.dI=true)(h:VR e1 e x A w v):VR e2 e x A' w' v:=by
 unfold VR at h ⊢;by_cases c:e.one=true
 ·rw[if_pos c]at h ⊢;exact gm hs h
 ·rw[if_neg c]at h ⊢;obtain⟨cs,h1,h2⟩:=h;exact⟨cs,h1,gm hs h2⟩
def uE.to{e:Ty}(hs:e.dI=true){y:D (ft e)}{m:MapEntry}{w w':World}(h:uE e y m w):uE e y m w':=⟨h.key,pA hs h.val,h.born⟩
def fB.to{e:Ty}(hs:e.dI=true){w w':World}:∀{x:List (D (ft e))} {ms:List MapEntry},fB e x ms w->fB e x ms w'
 |[],[],_=>trivial
 |_ :: _,_ :: _,⟨h1,h2⟩=>⟨h1.to hs,h2.to hs⟩
 |[],_ :: _,h=>h.elim
 |_ :: _,[],h=>h.elim
def fB.len{e:Ty}{w:World}:∀{x:List (D (ft e))} {ms:List MapEntry},fB e x ms w->x.length=ms.length
 |[],[],_=>rfl
 |_ :: _,_ :: _,⟨_,h2⟩=>by simp[h2.len]
 |[],_ :: _,h=>h.elim
 |_ :: _,[],h=>h.elim
def o1.inside{t:Ty}{x:D t}{l:Loc}{w:World}(h:o1 t x l w):∀b∈l.bs,b<w.heap.size:=by
 obtain⟨e,_,b,es,dH,hm⟩:=h;intro b' hb';rw[hm.bs]at hb';simp at hb';subst hb';exact(Array.getElem?_eq_some_iff.1 hm.heap).1
def o1.frame{t:Ty}{x:D t}{l:Loc}{w w':World}(h:o1 t x l w)(hb:∀b∈l.bs,w'.heap[b]?=w.heap[b]?):o1 t x l w':=by
 obtain⟨e,ht,b,es,dH,hm⟩:=h;exact⟨e,ht,b,es,dH,hm.dI,hm.lv,hm.bs,by rw[hb b (by rw[hm.bs];simp)];exact hm.heap,hm.dH,hm.oZ.to hm.dI,hm.aN,hm.old⟩
def KV(a b:List UInt8):((⟨a.toArray⟩:ByteArray) == ⟨b.toArray⟩)=decide (a=b):=by
 rw[bm,et];simp
def oF{e:Ty}{w:World}{k:List UInt8}(hk:k.length<=aN):∀{x:List (D (ft e))} {ms:List MapEntry} (i:Nat),fB e x ms w->
  (qc e x k=false/\uT e x k=cE e/\ax .string (.string ⟨k.toArray⟩) ms i=some none/\(∀v c,jD e x k v c=x++[(k,v,c,())])/\jE e x k=x)\/
  (qc e x k=true/\∃j m,ms[j]?=some m/\ax .string (.string ⟨k.toArray⟩) ms i=some (some (i+j,m.val))/\VR 0 e (uT e x k) Kq w m.val/\m.key=.string ⟨k.toArray⟩/\
   (∀v u c,VR 0 e v Kq w u->fB e (jD e x k v c) (ms.set j {m with key:=.string ⟨k.toArray⟩,val:=u}) w)/\(∀v c,(jD e x k v c).length=x.length)/\(∀v c,∀y∈jD e x k v c,∃y'∈x,y.2.2.1=y'.2.2.1)/\
   fB e (jE e x k) (ms.eraseIdx j) w/\(∀y∈jE e x k,y∈x)/\(jE e x k).length<=x.length)
 |[],[],i,_ =>.inl ⟨rfl,rfl,rfl,fun _ _=>rfl,rfl⟩
 |y :: r,m :: ms,i,⟨h1,h2⟩=>by
  have hkey:Instr.sameNow .string (.string ⟨k.toArray⟩) m.key=some (decide (y.1=k)):=by
   rw[h1.key.1];show some _=_;rw[KV];congr 1;rw[bm];simp[eq_comm]
  by_cases c:y.1=k
  ·right
   refine⟨by simp[qc,c],0,m,rfl,by simp[ax,hkey,c],by simp[uT,c];exact h1.val,by rw[h1.key.1,c],fun v u cc hv =>?_,fun v cc =>?_,fun v cc y' hy' =>?_,?_,fun y' hy' =>?_,?_⟩
   ·rw[jD,if_pos c];exact⟨⟨⟨rfl,hk⟩,hv,h1.born⟩,h2⟩
   ·rw[jD,if_pos c];rfl
   ·rw[jD,if_pos c]at hy'
    rcases ag.1 hy' with rfl|hy'
    ·exact⟨y,by simp,rfl⟩
    ·exact⟨y',by simp[hy'],rfl⟩
   ·rw[jE,if_pos c];exact h2
   ·rw[jE,if_pos c]at hy';simp[hy']
   ·rw[jE,if_pos c];simp
  ·rcases oF hk (i+1) h2 with⟨k1,k2,k3,k4,k5⟩|⟨k1,j,m',k2,k3,k4,k5,k6,k7,k8,k9,k10,k11⟩
   ·left
    refine⟨by simp[qc,c,k1],by simp[uT,c,k2],by simp[ax,hkey,c,k3],fun v cc=>by simp[jD,c,k4],by simp[jE,c,k5]⟩
   ·right
    refine⟨by simp[qc,c,k1],j+1,m',by simpa using k2,by simp[ax,hkey,c,k3];omega,by simpa[uT,c]using k4,k5,fun v u cc hv =>?_,fun v cc =>?_,fun v cc y' hy' =>?_,?_,fun y' hy' =>?_,?_⟩
    ·rw[jD,if_neg c];exact⟨h1,k6 v u cc hv⟩
    ·rw[jD,if_neg c];simp[k7]
    ·rw[jD,if_neg c]at hy'
     rcases ag.1 hy' with rfl|hy'
     ·exact⟨y',by simp,rfl⟩
     ·obtain⟨y2,h3,h4⟩:=k8 v cc y' hy'
      exact⟨y2,by simp[h3],h4⟩
    ·rw[jE,if_neg c];exact⟨h1,k9⟩
    ·rw[jE,if_neg c]at hy'
     rcases ag.1 hy' with rfl|hy'
     ·simp
     ·simp[k10 y' hy']
    ·rw[jE,if_neg c];simp;omega
 |[],_ :: _,_,h=>h.elim
 |_ :: _,[],_,h=>h.elim
def fB.snoc{e:Ty}{w:World}{y:D (ft e)}{m:MapEntry}(hy:uE e y m w):∀{x:List (D (ft e))} {ms:List MapEntry},fB e x ms w->fB e (x++[y]) (ms++[m]) w
 |[],[],_=>⟨hy,aa⟩
 |_ :: _,_ :: _,⟨h1,h2⟩=>⟨h1,h2.snoc hy⟩
 |[],_ :: _,h=>h.elim
 |_ :: _,[],h=>h.elim
section
variable{X:Ext}{P:Program}{cx:Cx}
def yB{O:aD}{st:St}{loc:Nat->Loc}{w w':World}{n b:Nat}{oc oc':OC}(g:Good cx.eT X (aB O st loc w))(hO:dA O w)
  (hob:look st.aC n=some oc)(eP:(loc n).bs=[b])(hk:aO (loc n) (loc n) oc oc')(h0:oc.lo=0)(h0':oc'.lo=0)(hos:w'.os=w.os)(hout:w'.output=w.output)(hsz:w'.heap.size=w.heap.size)
  (hoth:∀b',b'≠b->w'.heap[b']?=w.heap[b']?) :
  Tr (aB O st loc w) (aB O (setObj st n oc') loc w')/\
   (OR cx.eT X (aB O (setObj st n oc') loc w') (loc n) oc'->Good cx.eT X (aB O (setObj st n oc') loc w')):=by
 refine mc (S:=aB O st loc w) (S':=aB O (setObj st n oc') loc w') (n:=n) (oc:=oc) (oc':=oc') (l':=loc n) g rfl hO hob
  (fun m=>lf st n m oc') (fun m =>?_) rfl (fun _=>kM rfl) hk hos hout (by simp[aB,hsz]) ?_ ?_ ?_
 ·show loc m=_
  by_cases e:n=m
  ·rw[if_pos e,e]
  ·rw[if_neg e];rfl
 ·intro b' _ hb'
  exact hoth b' (fun e=>hb' (by simp only[aB];rw[eP,e];simp))
 ·intro b' o v _ ho;rw[h0]at ho;omega
 ·intro b' hb';exact .inl ⟨hb',by omega⟩
structure Ks (cx:Cx) (P:Program) (S:aY) (st:St) (t:TypeId) (v:Value) (e:Ty) (n:Nat) (d:D (fP e)) where
 kt:TypeId
 te:TypeId
 b:Nat
 es:Array MapEntry
 dH:Nat
 fa:P.underlying t=some (.map kt te)
 key:P.underlying kt=some .string
 fit:look cx.τ te=some e
 one:e.one=false
 ob:S.ob n=some (.ext 1 (fP e) d)
 val:v=.map (some b)
 md:AU e d (S.loc n) S.w b es dH
 zero:∃i cs,P.info? te=some i/\i.zero=some (.agg cs)
def Ej{e:Ty}{x:D (fP e)}{l:Loc}{w:World}(h:o1 (fP e) x l w):∃b es dH,AU e x l w b es dH:=by
 obtain⟨e',he,h⟩:=h;have:e=e':=by injection he with h1 _;injection h1 with h1;injection h1 with _ h1;injection h1
 subst this;exact h
theorem lL(hok:TyOK P cx){O:aD}{st:St}{loc:Nat->Loc}{w:World}(g:Good cx.eT X (aB O st loc w)){t:TypeId}{c:C}{v:Value}{K:(e:Ty)->Nat->D (fP e)->VC}(hc:CR cx.eT (aB O st loc w) c v)
  (h:(n7 cx st t c K).holds):∃e n d,(K e n d).holds/\Nonempty (Ks cx P (aB O st loc w) st t v e n d):=by
 unfold n7 at h;split at h
 case h_2=>exact h.elim
 rename_i n;split at h
 case h_2=>exact h.elim
 rename_i kt te hm;obtain⟨h1,h2,h3⟩:=hok.mQ _ _ _ hm;split at h
 case h_2=>exact h.elim
 rename_i e t' x hte hob;split at h
 case h_2=>exact h.elim
 rename_i hb ho;have:=Ty.eq_of_beq hb;subst this;obtain⟨b,es,dH,hd⟩:=Ej (X.map.1 (g.obj _ _ hob).2);exact⟨e,n,_,h,⟨⟨kt,te,b,es,dH,h1,h2,hte,ho,by rw[fQ];exact hob,(hc.2 _ hob rfl).trans hd.lv,by rw[fQ];exact hd,h3⟩⟩⟩
def xK{S:aY}{c:C}{k:List UInt8}{v:Value}(h:pq .str c=some k)(hc:CR cx.eT S c v):v=.string ⟨k.toArray⟩/\k.length<=aN:=by
 have:=VR.one rfl (mf h hc);obtain⟨h1,h2⟩:=this;exact⟨by simpa using h1,h2⟩
def rO{kt:TypeId}(hk:P.underlying kt=some .string)(em:Bool)(s:ByteArray)(w:World):(Instr.checkKey em 10000 kt (.string s)).run P w=.ok () w:=
 Go.MapKept.run_checkKey (d:=.string) hk (by simp[Go.MapKept.IsKey]) em 9999
def oG{t kt te:TypeId}(hu:P.underlying t=some (.map kt te))(hk:P.underlying kt=some .string){w:World}{b dH:Nat}{es:Array MapEntry}(hb:w.heap[b]?=some (.map es dH)){s:ByteArray}{r:Option (Nat×Value)}
  (hr:ax .string (.string s) es.toList 0=some r){z:Value}(hz:(zeroValue te).run P w=.ok z w) :
  (ew t (.map (some b)) (.string s) true).run P w=.ok (.tuple #[match r with|some (_,v)=>v|none=>z,.bool r.isSome]) w:=by
 unfold ew;simp only[af,run_underlying hu,ar,bo hb,rO hk,ak,bp hk hr];cases r with
 |none=>simp[hz]
 |some p=>rfl
def Fb:∀{e:Ty},e.dI=true->mE e=true:=by
 intro e;induction e with
 |prod a b iha ihb=>intro h;simp[Ty.dI]at h;simp[mE,iha h.1,ihb h.2]
 |slice e _=>intro h;simp[Ty.dI]at h
 |er=>intro h;simp[Ty.dI]at h
 |err=>intro h;simp[Ty.dI]at h
 |_=>intro _;rfl
def Jg(hok:TyOK P cx){S:aY}{st:St}{t:TypeId}{v:Value}{e:Ty}{n:Nat}{d:D (fP e)}(m:Ks cx P S st t v e n d)(w:World):∃z,(zeroValue m.te).run P w=.ok z w/\∀eT A w',VR eT e (cE e) A w' z:=by
 obtain⟨_,ti,_,hf,_⟩:=dK hok m.fit;obtain⟨z,hz,hzr⟩:=hf.zero;obtain⟨i,cs,hi,hc⟩:=m.zero;rw[hf.info]at hi;cases hi;rw[hz]at hc;cases hc;have hno:=Fb m.md.dI;refine⟨.agg cs,by simp[zeroValue,typeInfo,hf.info,hz],fun eT A w' =>?_⟩;unfold VR;rw[if_neg (by rw[m.one];simp)];exact⟨cs,rfl,wb hzr hno⟩
def An{es:Array MapEntry}{j:Nat}{m:MapEntry}(f:MapEntry->MapEntry)(h:es.toList[j]?=some m):(es.modify j f).toList=es.toList.set j (f m):=by
 have h':es[j]?=some m:=by rw[<-Array.getElem?_toList];exact h
 rw[Array.toList_modify];exact Go.ChangeMaps.modify_eq_set f es.toList j m h
def oH{t kt te:TypeId}(hu:P.underlying t=some (.map kt te))(hk:P.underlying kt=some .string){w:World}{b dH:Nat}{es:Array MapEntry}(hb:w.heap[b]?=some (.map es dH)){s:ByteArray}{v:Value}
  {es':Array MapEntry}{clk':Nat}(h:(ax .string (.string s) es.toList 0=some none/\es'=es.push {key:=.string s,val:=v,born:=dH}/\clk'=dH+1)\/
   ∃j m,ax .string (.string s) es.toList 0=some (some (0+j,m.val))/\es.toList[j]?=some m/\m.key=.string s/\es'=es.modify j (fun e=>{e with key:=.string s,val:=v})/\clk'=dH) :
  (ez t (.map (some b)) (.string s) v).run P w=.ok () {w with heap:=w.heap.setIfInBounds b (.map es' clk')}:=by
 unfold ez;simp only[af,run_underlying hu,ar,bo hb,rO hk];rcases h with⟨h1,rfl,rfl⟩|⟨j,m,h1,h2,h3,rfl,rfl⟩
 ·rw[bp hk h1]
  simp only[ar];exact b5 _ hb
 ·rw[bp hk h1]
  have hm:es[j]?=some m:=by rw[<-Array.getElem?_toList];exact h2
  have hs:(e5 (.string s) (.string s)).run P w=.ok (.string s) w:=by
   unfold e5;rw[if_pos (by simp only[Instr.sameBits];exact(et s s).2 rfl)];rfl
  simp only[ar,ay,hm,bq,br,h3,af,hs];exact b5 _ hb
def oI{t kt te ty:TypeId}{ats:Array TypeId}(hat:ats[0]?=some t)(hu:P.underlying t=some (.map kt te))(hk:P.underlying kt=some .string){w:World}{b dH:Nat}{es:Array MapEntry}(hb:w.heap[b]?=some (.map es dH)){s:ByteArray}
  {es':Array MapEntry}(h:(ax .string (.string s) es.toList 0=some none/\es'=es)\/∃j v,ax .string (.string s) es.toList 0=some (some (0+j,v))/\es'=es.eraseIdxIfInBounds j) :
  (cq ats ty #[.map (some b),.string s]).run P w=.ok (.tuple #[]) {w with heap:=w.heap.setIfInBounds b (.map es' dH)}:=by
 unfold cq;simp only[hat,List.getElem?_toArray,List.getElem?_cons_zero,List.getElem?_cons_succ,af,run_underlying hu,ar,bo hb,rO hk];rcases h with⟨h1,rfl⟩|⟨j,v,h1,rfl⟩
 ·rw[bp hk h1]
  simp only[ar,af,b5 _ hb,ak]
 ·rw[bp hk h1]
  simp only[ar,ay,af,b5 _ hb,ak]
def Jh{w:World}{b:Nat}{o:Obj}(hb:b<w.heap.size):({w with heap:=w.heap.setIfInBounds b o}:World).heap[b]?=some o:=by
 simp[hb]
def Dr{w:World}{b b':Nat}{o:Obj}(h:b'≠b):({w with heap:=w.heap.setIfInBounds b o}:World).heap[b']?=w.heap[b']?:=by
 simp only[Array.getElem?_setIfInBounds];rw[if_neg (fun e=>h e.symm)]
def map_set{O:aD}{st:St}{loc:Nat->Loc}{w:World}(g:Good cx.eT X (aB O st loc w))(hO:dA O w){e:Ty}{n b dH clk':Nat}{es es':Array MapEntry}{d:D (fP e)}
  (hob:look st.aC n=some (.ext 1 (fP e) d))(hm:AU e d (loc n) w b es dH){xs:List (D (ft e))}{c':Int}(hc:c'=(clk':Int))(hents:fB e xs es'.toList w)(hbig:xs.length<=aN)(hold:∀y∈xs,y.2.2.1<c') :
  Tr (aB O st loc w) (aB O (setObj st n (.ext 1 (fP e) (xs,c',()))) loc {w with heap:=w.heap.setIfInBounds b (.map es' clk')})/\
   Good cx.eT X (aB O (setObj st n (.ext 1 (fP e) (xs,c',()))) loc {w with heap:=w.heap.setIfInBounds b (.map es' clk')}):=by
 have hlt:b<w.heap.size:=(Array.getElem?_eq_some_iff.1 hm.heap).1;obtain⟨t1,g1⟩:=yB (w':={w with heap:=w.heap.setIfInBounds b (.map es' clk')}) (oc':=.ext 1 (fP e) (xs,c',())) g hO hob hm.bs ⟨rfl,rfl⟩ rfl rfl rfl rfl (by simp) (fun b' hb'=>Dr hb');exact⟨t1,g1 (X.map.2 ⟨e,rfl,b,es',clk',hm.dI,hm.lv,hm.bs,Jh hlt,hc,hents.to hm.dI,hbig,hold⟩)⟩
def Ji{e:Ty}{xs:List (D (ft e))}{k:List UInt8}{v:D e}{c:Int}(h1:qc e xs k=false)(h2:∀v c,jD e xs k v c=xs++[(k,v,c,())])(hold:∀y∈xs,y.2.2.1<c):∀y∈jD e xs k v c,y.2.2.1<rN e xs k c:=by
 intro y hy;rw[h2]at hy;unfold rN;rw[h1];simp only[a7,if_false];rcases ba.1 hy with hy|hy
 ·have h3:(y.2.2.1:Int)<c:=hold y hy
  exact e6 (Int.le_of_lt h3)
 ·simp at hy;subst hy;exact e6 (Int.le_refl _)
def Ek{e:Ty}{w:World}:∀{x:List (D (ft e))} {ms:List MapEntry} {s:Nat},fB e x ms w->wj e x (s:Int)=true->∃m,ms.find? (fun m=>m.born == s)=some m/\uE e (Ei e x (s:Int)) m w
 |y :: r,m :: ms,s,⟨h1,h2⟩,hb=>by
  by_cases c:m.born=s
  ·have c':y.2.2.1=(s:Int):=by rw[h1.born,c]
   exact⟨m,by simp[c],by rw[Ei,if_pos c'];exact h1⟩
  ·have c':¬y.2.2.1=(s:Int):=fun h=>c (b6 (h1.born.symm.trans h))
   rw[wj,if_neg c']at hb;obtain⟨m',h3,h4⟩:=Ek h2 hb;exact⟨m',by simp[c,h3],by rw[Ei,if_neg c'];exact h4⟩
 |[],[],_,_,hb=>by simp[wj]at hb
def yC{e:Ty}{w:World}{sn:Array Nat}:∀{x:List (D (ft e))} {ms:List MapEntry},fB e x ms w->fB e (tf e x (sn.toList.map fun(n:Nat)=>(n:Int))) (ms.filter fun m =>!sn.contains m.born) w
 |[],[],_=>trivial
 |y :: r,m :: ms,⟨h1,h2⟩=>by
  have hc:(sn.toList.map fun(n:Nat)=>(n:Int)).contains y.2.2.1=sn.contains m.born:=by
   rw[bm,h1.born];simp only[List.contains_iff_mem,List.mem_map,Array.mem_toList_iff,Array.contains_iff_mem];exact⟨fun⟨a,h3,h4⟩=>by rw[<-b6 h4];exact h3,fun h=>⟨_,h,rfl⟩⟩
  have ih:=yC (sn:=sn) h2;unfold tf at ih ⊢;rw[cr,cr,hc];cases sn.contains m.born with
  |true=>simp only[ct,a7,if_false];exact ih
  |false=>simp only[Bool.not_false,if_true];exact⟨h1,ih⟩
 |[],_ :: _,h=>h.elim
 |_ :: _,[],h=>h.elim
def uU{e:Ty}{w:World}:∀{x:List (D (ft e))} {ms:List MapEntry} {m:MapEntry},fB e x ms w->m∈ms->∃y∈x,uE e y m w
 |y :: _,_ :: _,m,⟨h1,h2⟩,hm=>by
  rcases ag.1 hm with rfl|hm
  ·exact⟨y,by simp,h1⟩
  ·obtain⟨y',h3,h4⟩:=uU h2 hm
   exact⟨y',by simp[h3],h4⟩
 |[],[],_,_,hm=>by simp at hm
structure L2 (S:aY) (v:Value) (e:Ty) (k:Nat) (cs:List C) (seen:List Int) (cl:Int) (d:D (fP e)) where
 n:Nat
 b:Nat
 r:Nat
 es:Array MapEntry
 dH:Nat
 c:Nat
 sn:Array Nat
 ob:S.ob n=some (.ext 1 (fP e) d)
 it:S.ob k=some (.iter cs seen cl)
 val:v=.pointer (some ⟨r,0,none⟩)
 md:AU e d (S.loc n) S.w b es dH
 hr:S.w.heap[r]?=some (.mapIter (some b) c sn c)
 dV:cl=(c:Int)
 yD:seen=sn.toList.map fun(n:Nat)=>(n:Int)
 eP:(S.loc k).bs=[r]
 MS:(S.loc k).v=.pointer (some ⟨r,0,none⟩)
theorem wo{O:aD}{st:St}{loc:Nat->Loc}{w:World}(g:Good cx.eT X (aB O st loc w)){c:C}{v:Value}{K:(e:Ty)->Nat->List C->List Int->Int->D (fP e)->VC}(hc:CR cx.eT (aB O st loc w) c v)
  (h:(wk st c K).holds):∃e k cs seen cl d,(K e k cs seen cl d).holds/\(∃m,cs=[.eL m])/\Nonempty (L2 (aB O st loc w) v e k cs seen cl d):=by
 unfold wk at h;split at h
 case h_2=>exact h.elim
 rename_i k;split at h
 case h_2=>exact h.elim
 rename_i n seen cl hk;split at h
 case h_2=>exact h.elim
 rename_i t' x hob;split at h
 case h_2=>exact h.elim
 rename_i e hun;split at h
 case h_2=>exact h.elim
 rename_i hb;have:=Ty.eq_of_beq hb;subst this;obtain⟨b,es,dH,hd⟩:=Ej (X.map.1 (g.obj _ _ hob).2);obtain⟨r,m,c,sn,h1,h2,h3,h4,h5,h6⟩:=(g.obj _ _ hk).2;have hmb:m=b:=by
  cases h4 with
  |cons h7 _ _=>
   have:=(h7.2 _ hob rfl).trans hd.lv;cases this;rfl
 subst hmb;exact⟨e,k,_,seen,cl,_,h,⟨n,rfl⟩,⟨⟨n,m,r,es,dH,c,sn,by rw[fQ];exact hob,hk,(hc.2 _ hk rfl).trans h1,by rw[fQ];exact hd,h3,h5,h6,h2,h1⟩⟩⟩
def Bl{S:aY}{eT:TypeId}{y:List UInt8}{v:Value}(h:v=.string ⟨y.toArray⟩/\y.length<=aN):e8 eT S (.one (.d .str y)) v:=by
 show VR eT .str y S.A S.w v;rw[h.1];exact VR.bQ rfl ⟨rfl,h.2⟩
def KW{S:aY}{eT:TypeId}{n:Nat}(h:n<=aN):cR eT S (.s (.one (.d (.int .i64) (n:Int)))) (.int .i64 (n:Int)):=by
 show VR eT (.int .i64) (n:Int) S.A S.w _;refine VR.bQ rfl ⟨rfl,?_⟩;rw[AT]at h;show(-9223372036854775808:Int)<=(n:Int)/\(n:Int)<=9223372036854775807;omega
def Bm{S:aY}{eT:TypeId}{x b:Bool}(h:x=b):e8 eT S (.one (.d .bool x)) (.bool b):=by
 subst h;show VR eT .bool x S.A S.w (.bool x);exact VR.bQ rfl rfl
def Ds(hok:TyOK P cx){O:aD}{st:St}{loc:Nat->Loc}{w:World}{a:Act}(g:Good cx.eT X (aB O st loc w))(hO:dA O w)(he:en cx.eT (aB O st loc w) st.env a)
  {o:Oper}{K:SV->St->VC}{vc:VC}(hm:wm cx st o K=some vc)(h:vc.holds) :
  ∃sv v st' loc' w',(K sv st').holds/\st'.env=st.env/\Good cx.eT X (aB O st' loc' w')/\Tr (aB O st loc w) (aB O st' loc' w')/\cR cx.eT (aB O st' loc' w') sv v/\
   ((execOp a.eval o).run P w=.ok (.value v) w'\/((execOp a.eval o).run P w=.ok .skip w'/\sv=.s (.one .any))):=by
 unfold wm at hm;split at hm
 ·rename_i t hop
  cases hm;split at h
  case h_2=>exact h.elim
  rename_i k te hmp;split at h
  case h_2=>exact h.elim
  rename_i e hte;split at h
  case h_2=>exact h.elim
  rename_i hs;have hb:Below w.heap.size w (w.alloc (.map #[] 0)):=(Below.refl _ w).alloc (ai _) _;obtain⟨tr1,g1⟩:=eJ (oc:=.ext 1 (fP e) ([],0,())) (l:=⟨.map (some w.heap.size),[w.heap.size]⟩) g hO hb (by simp);have g1:=g1 (X.map.2 ⟨e,rfl,w.heap.size,#[],0,hs,rfl,rfl,heap_alloc_new w _,rfl,aa,by simp,fun y hy=>by simp at hy⟩);refine⟨_,.map (some w.heap.size),_,_,_,h,rfl,g1,tr1,⟨by show st.next<st.next+1;omega,fun oc hoc _=>by simp[aB,bI]⟩,.inl ?_⟩;simp[execOp,hop,Instr.makeMap]
 ·rename_i t m x hop
  cases hm;obtain⟨e,n,d,h1,⟨M⟩⟩:=lL (P:=P) hok g (bD he m) h;split at h1
  case h_2=>exact h1.elim
  rename_i k hk;obtain⟨hv,hl⟩:=xK hk (bD he x);obtain⟨z,hz,hzr⟩:=Jg hok M w;rcases oF hl 0 M.md.oZ with⟨k1,k2,k3,k4,k5⟩|⟨k1,j,m',k2,k3,k4,k5,_⟩
  ·refine⟨_,.tuple #[z,.bool false],st,loc,w,h1,rfl,g,Tr.refl _,⟨[z,.bool false],rfl,.cons (by rw[k2];exact hzr _ _ _) (.cons (Bm k1) .nil)⟩,.inl ?_⟩
   have hrun:=oG (w:=w) M.fa M.key M.md.heap k3 hz;simp only[execOp,hop,af,M.val,hv];rw[hrun];rfl
  ·refine⟨_,.tuple #[m'.val,.bool true],st,loc,w,h1,rfl,g,Tr.refl _,⟨[m'.val,.bool true],rfl,.cons (pA M.md.dI k4) (.cons (Bm k1) .nil)⟩,.inl ?_⟩
   have hrun:=oG (w:=w) M.fa M.key M.md.heap k3 hz;simp only[execOp,hop,af,M.val,hv];rw[hrun];rfl
 ·rename_i t m x v hop
  cases hm;obtain⟨e,n,d,h1,⟨M⟩⟩:=lL (P:=P) hok g (bD he m) h;split at h1
  case h_2=>exact h1.elim
  rename_i k y hk hy;obtain⟨hbig,h1⟩:=h1;obtain⟨hv,hl⟩:=xK hk (bD he x);have hvy:VR 0 e y Kq w (a.eval v):=pA M.md.dI (iI hy (ij he v));rcases oF hl 0 M.md.oZ with⟨k1,k2,k3,k4,k5⟩|⟨k1,j,m',k2,k3,k4,k5,k6,k7,k8,_⟩
  ·obtain⟨t1,g1⟩:=map_set (es':=M.es.push {key:=.string ⟨k.toArray⟩,val:=a.eval v,born:=M.dH}) (clk':=M.dH+1) g hO M.ob M.md (xs:=jD e d.1 k y d.2.1) (c':=rN e d.1 k d.2.1)
    (by unfold rN;rw[k1,M.md.dH];rfl) (by rw[k4,e7];exact fB.snoc ⟨⟨rfl,hl⟩,hvy,M.md.dH⟩ M.md.oZ) (by rw[k4];simp;omega) (Ji k1 k4 M.md.old)
   refine⟨_,.nilFunc,_,loc,_,h1,rfl,g1,t1,aa,.inr ⟨?_,rfl⟩⟩;have hrun:=oH (w:=w) M.fa M.key M.md.heap (v:=a.eval v) (.inl ⟨k3,rfl,rfl⟩);simp only[execOp,hop,af,M.val,hv];rw[hrun];rfl
  ·obtain⟨t1,g1⟩:=map_set (es':=M.es.modify j (fun e=>{e with key:=.string ⟨k.toArray⟩,val:=a.eval v})) (clk':=M.dH) g hO M.ob M.md (xs:=jD e d.1 k y d.2.1) (c':=rN e d.1 k d.2.1)
    (by unfold rN;rw[k1,M.md.dH];rfl) (by rw[An _ k2];exact k6 y (a.eval v) _ hvy) (by rw[k7];exact M.md.aN) (fun y' hy'=>by
     obtain⟨y2,h3,h4⟩:=k8 _ _ y' hy';rw[h4];unfold rN;rw[k1];exact M.md.old y2 h3)
   refine⟨_,.nilFunc,_,loc,_,h1,rfl,g1,t1,aa,.inr ⟨?_,rfl⟩⟩;have hrun:=oH (w:=w) M.fa M.key M.md.heap (v:=a.eval v) (.inr ⟨j,m',k3,k2,k5,rfl,rfl⟩);simp only[execOp,hop,af,M.val,hv];rw[hrun];rfl
 ·rename_i t m hop
  cases hm;have hc0:=bD he m;obtain⟨e,n,d,h1,⟨M⟩⟩:=lL (P:=P) hok g hc0 h;have hb:Below w.heap.size w (w.alloc (.mapIter (some M.b) M.dH #[] M.dH)):=(Below.refl _ w).alloc (ai _) _;obtain⟨tr1,g1⟩:=eJ (oc:=.iter [.eL n] [] d.2.1) (l:=⟨.pointer (some ⟨w.heap.size,0,none⟩),[w.heap.size]⟩) g hO hb (by simp);have hx:CR cx.eT (aB O st loc w) (.eL n) (.map (some M.b)):=⟨(g.obj _ _ M.ob).1,fun oc hoc _=>M.md.lv.symm⟩;have g1:=g1 ⟨w.heap.size,M.b,M.dH,#[],rfl,rfl,heap_alloc_new w _,.cons (hx.tr tr1) rfl .nil,M.md.dH,rfl⟩;refine⟨_,.pointer (some ⟨w.heap.size,0,none⟩),_,_,_,h1,rfl,g1,tr1,⟨by show st.next<st.next+1;omega,fun oc hoc _=>by simp[aB,bI]⟩,.inl ?_⟩;have hu:=M.fa;have hh:w.heap[M.b]?=some (.map M.es M.dH):=M.md.heap;have hgo:(getObj M.b).run P w=.ok (.map M.es M.dH) w:=bo hh;simp only[execOp,hop,M.val,Instr.range,af,run_underlying hu,ar,hgo,ak];rfl
 ·rename_i it hop
  cases hm;unfold GW at h;obtain⟨e,k,cs,seen,cl,d,h1,⟨n0,rfl⟩,⟨M⟩⟩:=wo g (bD he it) h;obtain⟨dV,h1,h2⟩:=h1;have hcc:M.dH=M.c:=b6 (M.md.dH.symm.trans (dV.trans M.dV));have hold:∀x∈M.es.toList,x.born<M.c:=fun x hx=>by
   obtain⟨y,hy,hyr⟩:=uU M.md.oZ hx;have h3:=M.md.old y hy;rw[hyr.born,M.md.dH,hcc]at h3;exact Int.ofNat_lt.1 h3
  have hleft:fB e (tf e d.1 seen) (leftOf M.es M.sn).toList w:=by
   have:=yC (sn:=M.sn) M.md.oZ;rw[<-M.yD]at this;unfold leftOf;rw[Array.toList_filter];exact this
  have hrl:M.r<w.heap.size:=(Array.getElem?_eq_some_iff.1 M.hr).1;rcases Go.run_next_at (P:=P) w o.type M.r M.b M.c M.c M.sn M.es M.dH M.hr M.md.heap hold (ai _)with⟨h3,h4⟩|⟨m,hm,w1,hw1,h4⟩
  ·have hnil:tf e d.1 seen=[]:=fr.1 (by rw[hleft.len];simpa using h3)
   refine⟨_,.tuple #[.bool false],st,loc,w,h1 hnil,rfl,g,Tr.refl _,⟨[.bool false],rfl,.cons rfl .nil⟩,.inl ?_⟩;simp only[execOp,hop,M.val,af,h4,ar,ak]
  ·obtain⟨y,hy,hyr⟩:=uU hleft hm
   have hK:=h2 y hy;have e1:w1.heap=w.heap/\w1.os=w.os/\w1.output=w.output:=by rcases hw1 with rfl|rfl <;> exact⟨rfl,rfl,rfl⟩
   obtain⟨t1,g1⟩:=yB (w':=bt w1 M.r (.mapIter (some M.b) M.c (M.sn.push m.born) M.dH)) (oc':=.iter [.eL n0] (seen++[y.2.2.1]) cl) g hO M.it M.eP trivial rfl rfl e1.2.1 e1.2.2
    (by simp[bt,e1.1]) (fun b' hb'=>by simp only[bt,Array.getElem?_setIfInBounds,e1.1];rw[if_neg (fun e=>hb' e.symm)])
   have hor:=(g.obj _ _ M.it).2;have hg1:=g1 (by
    obtain⟨r',m0,c0,sn0,q1,q2,q3,q4,q5,q6⟩:=hor;have hmb:m0=M.b:=by
     have hr':r'=M.r:=by have:=M.MS.symm.trans q1;cases this;rfl
     subst hr';have:=M.hr.symm.trans q3;cases this;rfl
    refine⟨M.r,m0,M.c,M.sn.push m.born,M.MS,M.eP,?_,q4.tr t1,M.dV,?_⟩
    ·show(bt w1 M.r _).heap[M.r]?=_
     rw[hmb,hcc];simp only[bt,Array.getElem?_setIfInBounds,e1.1];simp[hrl]
    ·rw[e7,List.map_append,<-M.yD,hyr.born];rfl)
   refine⟨_,.tuple #[.bool true,m.key,m.val],_,loc,_,hK,rfl,hg1,t1,⟨[.bool true,m.key,m.val],rfl,.cons rfl (.cons (Bl hyr.key) (.cons (pA M.md.dI hyr.val) .nil))⟩,.inl ?_⟩;simp only[execOp,hop,M.val,af,h4,ar,ak]
 ·rename_i it hop
  cases hm;obtain⟨e,k,cs,seen,cl,d,h1,⟨n0,rfl⟩,⟨M⟩⟩:=wo g (bD he it) h;obtain⟨dV,hne,hbo,h1⟩:=h1;have hcc:M.dH=M.c:=b6 (M.md.dH.symm.trans (dV.trans M.dV));have yD:M.sn.toList≠[]:=fun e0=>hne (by rw[M.yD,e0];rfl)
  have hlast:∃s,M.sn.back?=some s/\tg seen=(s:Int):=by
   refine⟨M.sn.toList.getLast yD,?_,?_⟩
   ·rw[<-Array.getLast?_toList];exact List.getLast?_eq_some_getLast yD
   ·refine(congrArg tg M.yD).trans ?_
    unfold tg;rw[List.getLastD_eq_getLast?,List.getLast?_map,List.getLast?_eq_some_getLast yD];rfl
  obtain⟨s,hs1,hs2⟩:=hlast;rw[hs2]at hbo h1;obtain⟨m,hm1,hm2⟩:=Ek M.md.oZ hbo;refine⟨_,.tuple #[m.key,m.val],st,loc,w,h1,rfl,g,Tr.refl _,⟨[m.key,m.val],rfl,.cons (Bl hm2.key) (.cons (pA M.md.dI hm2.val) .nil)⟩,.inl ?_⟩;have hf:M.es.find? (fun m=>m.born == s)=some m:=by rw[<-Array.find?_toList];exact hm1
  have hr:=M.hr;have hb:=M.md.heap;simp only[aB]at hr hb;simp only[execOp,hop,M.val,Instr.entry,getObj,af,Sem.run,hr,hb,Result.andThen,hs1,hcc,bne_self_eq_false,a7,if_false,hf];rfl
 ·rename_i c hop
  split at hm
  ·rename_i hcal
   split at hm
   ·rename_i m x t ts harg hty
    cases hm;obtain⟨e,n,d,h1,⟨M⟩⟩:=lL (P:=P) hok g (bD he m) h;split at h1
    case h_2=>exact h1.elim
    rename_i k hk;obtain⟨hv,hl⟩:=xK hk (bD he x);have ha:c.args= #[m,x]:=aj.1 harg;have hat:c.argTypes[0]?=some t:=by rw[<-Array.getElem?_toList,hty];rfl
    have fin:∀es':Array MapEntry,fB e (jE e d.1 k) es'.toList w->(jE e d.1 k).length<=aN->(∀y∈jE e d.1 k,y∈d.1)->
      (∀ty,(cq c.argTypes ty #[.map (some M.b),.string ⟨k.toArray⟩]).run P w=.ok (.tuple #[]) {w with heap:=w.heap.setIfInBounds M.b (.map es' M.dH)})->
      ∃sv v st' loc' w',(K sv st').holds/\st'.env=st.env/\Good cx.eT X (aB O st' loc' w')/\Tr (aB O st loc w) (aB O st' loc' w')/\cR cx.eT (aB O st' loc' w') sv v/\
       ((execOp a.eval o).run P w=.ok (.value v) w'\/((execOp a.eval o).run P w=.ok .skip w'/\sv=.s (.one .any))):=by
     intro es' h3 h4 h5 h6;obtain⟨t1,g1⟩:=map_set (es':=es') (clk':=M.dH) g hO M.ob M.md (xs:=jE e d.1 k) (c':=d.2.1) M.md.dH h3 h4 (fun y hy=>M.md.old y (h5 y hy));refine⟨_,.tuple #[],_,loc,_,h1,rfl,g1,t1,aa,.inl ?_⟩;simp[execOp,hop,resolve,hcal,ha,invoke,builtin,M.val,hv,h6]
    rcases oF hl 0 M.md.oZ with⟨k1,k2,k3,k4,k5⟩|⟨k1,j,m',k2,k3,k4,k5,k6,k7,k8,k9,k10,k11⟩
    ·exact fin M.es (by rw[k5];exact M.md.oZ) (by rw[k5];exact M.md.aN) (fun y hy=>by rw[k5]at hy;exact hy) fun ty=>oI hat M.fa M.key M.md.heap (.inl ⟨k3,rfl⟩)
    ·have hj:j<M.es.size:=by
      rcases a8 j M.es.toList.length with h'|h'
      ·simpa using h'
      ·rw[List.getElem?_eq_none h']at k2;cases k2
     refine fin (M.es.eraseIdxIfInBounds j) ?_ (Nat.le_trans k11 M.md.aN) k10 fun ty=>oI hat M.fa M.key M.md.heap (.inr ⟨j,_,k3,rfl⟩)
     unfold Array.eraseIdxIfInBounds;rw[dif_pos hj,Array.toList_eraseIdx];exact k9
   ·cases hm;exact h.elim
  ·rename_i hcal
   split at hm
   ·rename_i x t harg hty
    split at hm
    ·cases hm
     obtain⟨e,n,d,h1,⟨M⟩⟩:=lL (P:=P) hok g (bD he x) h;have ha:c.args= #[x]:=aj.1 harg;have ht:c.argTypes= #[t]:=aj.1 hty;have hsz:d.1.length=M.es.size:=by rw[M.md.oZ.len];simp
     refine⟨_,.int .i64 (d.1.length:Int),st,loc,w,h1,rfl,g,Tr.refl _,KW M.md.aN,.inl ?_⟩;have hgo:(getObj M.b).run P w=.ok (.map M.es M.dH) w:=bo M.md.heap;simp[execOp,hop,resolve,hcal,ha,ht,invoke,builtin,Builtin.len_,run_underlying M.fa,hgo,goInt,M.val,hsz]
    ·cases hm
   ·cases hm
  ·cases hm
 ·cases hm
end
def uV(cx:Cx)(st:St)(x:Operand)(ty:TypeId)(K:SV->St->VC):VC:=
 match ev st.env x,look cx.τ ty with
 |.s (.one .fO),some (.slice e)=>match e.dI with
  |true=>K (.s (.one (.aM st.next))) (fresh st (.aM e []))
  |false=>rI cx st x ty K
 |_,_ =>.ff
def uW(cx:Cx)(st:St)(t:TypeId)(n:Nat)(x:C)(K:SV->St->VC):VC:=
 match look cx.τ t with
 |some (.slice e)=>match e.dI,rD st e x,look st.aC n with
  |true,some ys,some (.aM e' zs)=>match h:Ty.beq (.slice e') (.slice e)with
   |true =>.and (0<ad ys/\ad zs+ad ys<=1000000000) (K (.s (.one (.aM st.next))) (fresh (aS (aS st n) n) (.aM e (bR h (a:=.slice e') zs++ys))))
   |false =>.ff
  |_,_,_ =>.ff
 |_ =>.ff
section
variable{X:Ext}{P:Program}{cx:Cx}
def rP{O:aD}{st:St}{loc:Nat->Loc}{w:World}{a:Act}(g:Good cx.eT X (aB O st loc w))(hO:dA O w)(he:en cx.eT (aB O st loc w) st.env a)
  {x:Operand}{ty:TypeId}{K:SV->St->VC}(h:(uV cx st x ty K).holds) :
  ∃sv st' loc',(K sv st').holds/\st'.env=st.env/\Good cx.eT X (aB O st' loc' w)/\Tr (aB O st loc w) (aB O st' loc' w)/\cR cx.eT (aB O st' loc' w) sv (a.eval x):=by
 have hx:=ig he x;unfold uV at h;split at h
 case h_2=>exact h.elim
 rename_i e hl _;rw[hl]at hx;split at h
 ·obtain⟨tr1,g1⟩:=eJ (oc:=.aM e []) (l:=⟨.slice none 0 0,[]⟩) g hO (Below.refl _ w) (by simp)
  have g1:=g1 (.inl ⟨rfl,⟨none,rfl⟩,rfl⟩);refine⟨_,_,_,h,rfl,g1,tr1,?_⟩;rw[show a.eval x=_ from hx];exact⟨by simp[aB,fresh],fun t ys hy=>by simp[aB,bI]⟩
 ·exact Al g hO he h
def Bn(hok:TyOK P cx){O:aD}{st:St}{loc:Nat->Loc}{w:World}(g:Good cx.eT X (aB O st loc w))(hO:dA O w)
  {t ty:TypeId}{n:Nat}{x:C}{K:SV->St->VC}{vs vx:Value}(hs:CR cx.eT (aB O st loc w) (.aM n) vs)(hx:CR cx.eT (aB O st loc w) x vx)(h:(uW cx st t n x K).holds) :
  ∃sv v st' loc' w',(K sv st').holds/\st'.env=st.env/\Good cx.eT X (aB O st' loc' w')/\Tr (aB O st loc w) (aB O st' loc' w')/\cR cx.eT (aB O st' loc' w') sv v/\
   (b7 #[t,t] ty #[vs,vx]).run P w=.ok v w':=by
 unfold uW at h;split at h
 case h_2=>exact h.elim
 rename_i e ht;obtain⟨te,ti,td,hu,hf⟩:=eO hok ht;obtain⟨z,hz,hzr⟩:=hf.zero;have hzs:z.cells.size=e.size:=by
  rw[<-b8];exact(gX (S:=aB O st loc w) (cx:=cx) hzr).length.symm.trans (fo e)
 split at h
 case h_2=>exact h.elim
 rename_i ys e' zs hsc hys hob;split at h
 case h_2=>exact h.elim
 rename_i hb1;have he1:e'=e:=by have:=Ty.eq_of_beq hb1;cases this;rfl
 subst he1;rw[eg]at h;obtain⟨⟨hpos,hle⟩,h⟩:=h;have hvl:=hs.2 _ _ hob;have hbytes:(ad zs+ad ys)*ti.bytes<=140737488355328:=by have:=Nat.mul_le_mul hle hf.bytes;omega
 rcases qa g hys hx with⟨rfl,_⟩|⟨b,o,cap,cs,hvx,dV,hcc,hrl,hone⟩
 ·simp at hpos
 have hnews:∀j u,cs[j]?=some u->w.cell? ((⟨b,o,none⟩:Addr).add j)=some u:=fun j u hj=>by rw[bu];exact hcc j u hj
 subst hvx;have fin:∀(w':World) (b' cap':Nat) (vs':Array Value) (T':TypeId) (olds:List Value),olds.length=ad zs*e'.size->ee cx.eT e' zs (aB O st loc w).A w olds->
   w'.os=w.os->w'.output=w.output->w.heap.size<=w'.heap.size->(b'∈(loc n).bs\/w.heap.size<=b')->(∀b,b<w.heap.size->b≠b'->w'.heap[b]?=w.heap[b]?)->
   w'.heap[b']?=some (.cells vs' T' (0,0))->vs'.size=cap'*e'.size->ad zs+ad ys<=cap'->(∀(j:Nat) u,(olds++cs)[j]?=some u->vs'[j]?=some u)->
   (b7 #[t,t] ty #[vs,.slice (some ⟨b,o,none⟩) ys.length cap]).run P w=.ok (.slice (some ⟨b',0,none⟩) (ad zs+ad ys) cap') w'->
   ∃sv v st' loc' w',(K sv st').holds/\st'.env=st.env/\Good cx.eT X (aB O st' loc' w')/\Tr (aB O st loc w) (aB O st' loc' w')/\cR cx.eT (aB O st' loc' w') sv v/\
    (b7 #[t,t] ty #[vs,.slice (some ⟨b,o,none⟩) ys.length cap]).run P w=.ok v w':=by
  intro w' b' cap' vs' T' olds ho1 ho3 hos hout hsize hb' hoth hheap' hsz' hcap' hv hrun;obtain⟨tr,gd⟩:=nE (w':=w') (oc:=.aM e' (zs++ys)) (l:=⟨.slice (some ⟨b',0,none⟩) (ad zs+ad ys) cap',[b']⟩) g hO n n hos hout hsize
   (fun k oc' hk hl=>by
    have:k=n:=by rcases hk with h|h <;> exact h
    subst this;rw[hob]at hl;cases hl;rfl)
   (fun b hlt hb=>by
    refine hoth b hlt fun e' =>?_
    subst e';rcases hb' with k1|k1
    ·exact hb n _ (.inl rfl) hob k1
    ·omega)
   (fun b hbm=>by
    simp at hbm;subst hbm;rcases hb' with k1|k1
    ·exact .inl ⟨n,_,.inl rfl,hob,k1⟩
    ·exact .inr k1)
  have gd:=gd (.inr ⟨b',vs',T',cap',by rw[bj],rfl,hheap',hsz',by rw[bj];exact hcap',by rw[bj];unfold aN;omega,fun i y hy=>by
   obtain⟨us,r1,r2⟩:=(ho3.append ho1 hrl) i y hy;exact⟨us,gm hsc r1,fun j u hj=>hv _ u (r2 j u hj)⟩⟩)
  exact⟨_,_,_,_,_,h,rfl,gd,tr,⟨by simp[aB,fresh,aS],fun t xs hy=>by simp[aB,bI]⟩,hrun⟩
 rcases(g.obj n _ hob).2 with⟨rfl,⟨a0,ha0⟩,hbs0⟩|⟨b1,vs1,T1,cap1,hl1,hbs1,hheap1,hsz1,hfit1,hbig1,he1⟩
 ·have hvs0:vs=.slice a0 0 0:=hvl.trans ha0
  subst hvs0;have hrun:=jZ (P:=P) (w:=w) (t:=t) (ty:=ty) hu hf.info hz a0 (a:=⟨b,o,none⟩) (n:=ad ys) (c:=cap) (news:=cs) (by rw[dV,hf.size]) hnews hpos (by simp at hle;omega)
   (by have:=hbytes;simp only[List.length_nil,ay]at this;omega)
  have hc':ad ys<=grownCap w (ad ys) 0 te:=grownCap_ge w _ _ _;have hB:Below w.heap.size w (w.drew.alloc (.cells (cs.toArray++fz z.cells (grownCap w (ad ys) 0 te-ad ys)) te)):=(Below.refl _ w).drew.alloc (ai _) _;refine fin _ w.heap.size (grownCap w (ad ys) 0 te) _ te [] (by simp) (fun i y hy=>by simp at hy) hB.os hB.output hB.size (.inr (ai _)) (fun b hlt _=>hB.block b hlt) (heap_alloc_new w.drew _) ?_ (by simpa using hc')
   (fun j u hj =>?_) (by rw[hrun];simp)
  ·simp only[gf,bw,size_zeroCells,hzs,dV,<-b9]
   congr 1;omega
  ·rw[List.nil_append]at hj
   rw[Array.getElem?_append,if_pos (by simpa using aW hj)];simpa using hj
 ·have hvs0:vs=.slice (some ⟨b1,0,none⟩) (ad zs) cap1:=hvl.trans hl1
  subst hvs0;have hxs:ad zs*e'.size<=vs1.size:=by rw[hsz1];exact cu _ hfit1
  obtain⟨olds,ho,ho1,ho3,_⟩:=mF he1 hxs;have ho2:∀j u,olds[j]?=some u->vs1[j]?=some u:=fun j u hj=>by
   rw[ho,List.getElem?_take]at hj;split at hj
   ·rwa [Array.getElem?_toList]at hj
   ·cases hj
  by_cases hroom:ad zs+ad ys<=cap1
  ·have hmul:(ad zs+ad ys)*e'.size<=cap1*e'.size:=cu _ hroom
   rw[b9]at hmul;have hfit:ad zs*ti.size+cs.length<=vs1.size:=by rw[hf.size,hsz1,dV];exact hmul
   have hrun:=nr (P:=P) (ty:=ty) hu hf.info hheap1 (a:=⟨b,o,none⟩) (c:=cap) (by rw[dV,hf.size]) hnews hone hroom hfit;rw[hf.size]at hrun hfit;generalize hcur':(vs1.toList.take (ad zs*e'.size)++cs++vs1.toList.drop (ad zs*e'.size+cs.length)).toArray=cur' at hrun;have hget:∀k:Nat,cur'[k]?=if k<ad zs*e'.size then vs1[k]? else if k<ad zs*e'.size+cs.length then cs[k-ad zs*e'.size]? else vs1[k]?:=by
    intro k;rw[<-hcur',List.getElem?_toArray,fb _ _ _ _ (by simpa using hfit)];simp
   have hsz':cur'.size=vs1.size:=by
    rw[<-hcur'];simp only[bw,bj,List.length_take,List.length_drop,b8];omega
   refine fin (w.setRow b1 cur') b1 cap1 cur' T1 olds ho1 ho3 rfl rfl (by simp[World.setRow]) (.inl (by rw[show(loc n).bs=_ from hbs1];simp))
    (fun b _ hne=>setRow_other w b1 b cur' (fun e'=>hne e')) (setRow_heap w b1 vs1 cur' T1 (0,0) hheap1) (by rw[hsz',hsz1]) hroom (fun j u hj =>?_) hrun
   rw[List.getElem?_append,ho1]at hj;rw[hget];by_cases h3:j<ad zs*e'.size
   ·rw[if_pos h3]at hj ⊢;exact ho2 j u hj
   ·rw[if_neg h3]at hj
    have:=aW hj;rw[if_neg h3,if_pos (by omega)];exact hj
  ·have hrun:=run_append_grow (P:=P) w t ty te ti z hu hf.info hz ⟨b1,0,none⟩ (ad zs) cap1 olds (by rw[ho1,hf.size])
    (fun j u hj=>by rw[bu,ay,cell_of_row w b1 _ vs1 T1 (0,0) hheap1];exact ho2 j u hj)
    ⟨b,o,none⟩ (ad ys) cap cs (by rw[dV,hf.size]) hnews (by omega) (by omega) (growslice_fits (by omega) hbytes)
   have hc':ad zs+ad ys<=grownCap w (ad zs+ad ys) cap1 te:=grownCap_ge w _ _ _;have hB:Below w.heap.size w (w.drew.alloc (.cells (olds.toArray++cs.toArray++fz z.cells (grownCap w (ad zs+ad ys) cap1 te-(ad zs+ad ys))) te)):=(Below.refl _ w).drew.alloc (ai _) _;refine fin _ w.heap.size (grownCap w (ad zs+ad ys) cap1 te) _ te olds ho1 ho3 hB.os hB.output hB.size (.inr (ai _)) (fun b hlt _=>hB.block b hlt) (heap_alloc_new w.drew _) ?_ hc' (fun j u hj =>?_) hrun
   ·simp only[gf,bw,size_zeroCells,hzs,dV,ho1,<-b9]
    congr 1;omega
   ·have hj':(olds.toArray++cs.toArray)[j]?=some u:=by
     rw[<-Array.getElem?_toList];simpa using hj
    rw[Array.getElem?_append,if_pos (by have:=(Array.getElem?_eq_some_iff.1 hj').1;exact this)];exact hj'
end
def Jj(a b:Int):Int:=if b<a then b else a
def xL(a b:Int):Int:=if b > a then b else a
def Fc(mx:Bool)(x y:C)(K:C->VC):VC:=
 match x,y with
 |.d (.int k) a,.d (.int k') b=>match decide (k=k'),mx with
  |true,true=>K (.d (.int k) (xL a b))
  |true,false=>K (.d (.int k) (Jj a b))
  |_,_ =>.ff
 |_,_ =>.ff
def n8(st:St)(env:List (Nat×SV)):List Operand->Option (List Nat)
 |[]=>some []
 |x :: xs=>match di env x,n8 st env xs with
  |.ref n 0,some ns=>match look st.aC n with
   |some (.cells _ _)=>some (n :: ns)
   |_=>none
  |_,_=>none
def GX(cx:Cx)(st:St)(still:Bool)(f:C)(args:List bT)(K:SV->St->VC):VC:=
 match f with
 |.fn k caps=>match look cx.Γ k with
  |some (q,sp)=>match still&&!q with
   |true =>.ff
   |false=>sp (args++caps.map fun n =>.one (.ref n 0)) st K
  |none =>.ff
 |_ =>.ff
def n9(cx:Cx)(d:Option Tmp):Bool:=
 match d with
 |some d=>jA d cx.hint
 |none=>false
def uX(cx:Cx)(st:St)(o:Oper)(c:Call)(K:SV->St->VC):VC:=
 match c.callee with
 |.value f=>GX cx st (n9 cx o.dst) (di st.env f) (c.args.toList.map fun x=>nA st.env x) K
 |.builtin .append=>match c.args.toList,c.argTypes.toList with
  |[s,x],[t,t']=>match ab t t' with
   |true=>match di st.env s,di st.env x with
    |.xd n .top,.xd m .top=>xJ cx st t n m K
    |.aM n,x=>match n9 cx o.dst with
     |true=>uW cx st t n x K
     |false=>p9 cx false st t (.aM n) x K
    |s,x=>p9 cx (n9 cx o.dst) st t s x K
   |false=>match look cx.τ t,look cx.τ t',di st.env s,di st.env x with
    |some (.slice (.int .u8)),some .str,.app e' xs n,.d .str ys=>wa st (.int .u8) (aZ ys) e' xs n K
    |_,_,_,_ =>.ff
  |_,_ =>.ff
 |.builtin .copy=>match c.args.toList,c.argTypes.toList with
  |[d,s],[t,_]=>Bg cx st t (di st.env d) (di st.env s) K
  |_,_ =>.ff
 |.builtin .max=>match c.args.toList with
  |[x,y]=>Fc true (di st.env x) (di st.env y) fun c=>K (.s (.one c)) st
  |_ =>.ff
 |.builtin .min=>match c.args.toList with
  |[x,y]=>Fc false (di st.env x) (di st.env y) fun c=>K (.s (.one c)) st
  |_ =>.ff
 |_=>lI cx st o.op fun sv=>K sv st
def bytesOf(ys:List Int):List UInt8:=ys.map fun n=>UInt8.ofNat n.toNat
def qd(st:St)(x:C)(K:C->VC):VC:=
 match rD st (.int .u8) x with
 |some ys =>.and (ys.length<=aN) (K (.d .str (bytesOf ys)))
 |none =>.ff
def qe(st:St)(x:C)(K:SV->St->VC):VC:=
 match x with
 |.d .str s=>K (.s (.one (.d (.slice (.int .u8)) (aZ s)))) st
 |_ =>.ff
def uY(cx:Cx)(st:St)(o:Oper)(s t:TypeId)(x:Operand)(K:SV->St->VC):VC:=
 match look cx.τ s,look cx.τ t with
 |some (.slice (.int .u8)),some .str=>qd st (di st.env x) fun c=>K (.s (.one c)) st
 |some .str,some (.slice (.int .u8))=>qe st (di st.env x) K
 |_,some (.int _)=>lI cx st o.op fun sv=>K sv st
 |_,_ =>.ff
def isRow:C->Bool
 |.aM _=>true
 |_=>false
def El(st:St)(n:Nat)(ps:List (Nat×Operand)):Option bT:=
 match n,ps with
 |1,[(0,x)]=>match nA st.env x with
  |.one (.aM m)=>some (.one (.aM m))
  |.agg cs=>match cs.any isRow with
   |true=>some (.agg cs)
   |false=>none
  |_=>none
 |_,_=>none
def KX:Nat:=6000000
def Fe(cx:Cx)(d:Option Tmp)(v:SV):Option SV:=
 match d,v with
 |some d,.s (.one (.app e xs _))=>match jA (KX+d) cx.hint with
  |true=>some (.s (.one (.d (.slice e) xs)))
  |false=>none
 |_,_=>none
def Ff(cx:Cx)(st:St)(o:Oper)(x:Operand)(K:SV->St->VC):VC:=
 match n9 cx o.dst,ev st.env x with
 |true,.s (.one .fO)=>uV cx st x o.type K
 |_,v=>match Fe cx o.dst v with
  |some v=>K v st
  |none=>ta cx st x o.type K
def yE(cx:Cx)(st:St)(t:TypeId)(n:Nat)(ps:List (Nat×Operand))(K:SV->St->VC):VC:=
 match El st n ps with
 |some v=>rJ cx st t v K
 |none=>n5 cx st t n ps fun c=>K (.s (.one c)) st
def KY:Nat:=5000000
def Bo(cx:Cx)(v:bT):Option Nat:=
 match jA KY cx.hint,v with
 |true,.one (.aM n)=>some n
 |_,_=>none
def GY{cx:Cx}{v:bT}{n:Nat}(h:Bo cx v=some n):v=.one (.aM n):=by
 unfold Bo at h;split at h
 ·cases h;rfl
 ·cases h
def L3(cx:Cx)(st:St)(t:TypeId)(x:C)(v:bT)(K:SV->St->VC):VC:=
 match x with
 |.xd n (.cell i j)=>match look cx.τ t with
  |some ty=>rL st n i j ty v K
  |none =>.ff
 |x=>match Bo cx v with
  |some n=>match look st.aC n with
   |some (.aM e zs)=>tc cx (aS st n) t x (.one (.d (.slice e) zs)) K
   |_ =>.ff
  |none=>tc cx st t x v K
def wq(cx:Cx)(st:St)(o:Oper)(K:SV->St->VC):VC:=
 match o.op with
 |.convert s t x=>uY cx st o s t x K
 |.move x=>ta cx st x o.type K
 |.assign x=>Ff cx st o x K
 |.alloc t=>match look cx.oD t with
  |some e=>K (.s (.one (.eL st.next))) (fresh st (.ext 2 ky ([],(t:Int),(e:Int),())))
  |none=>Ef cx st t K
 |.box t x=>Kr cx st t (nA st.env x) K
 |.build t ps=>xI cx st t ps.toList fun sv=>K sv st
 |.buildSlice t n ps=>match n9 cx o.dst with
  |true=>qb cx st t n ps.toList K
  |false=>yE cx st t n ps.toList K
 |.makeSlice t l c=>o5 cx st t (di st.env l) (di st.env c) K
 |.store t x v=>L3 cx st t (di st.env x) (nA st.env v) K
 |.makeFunc fn first caps=>match fn,first.toList,n8 st st.env caps.toList with
  |.func f,[],some ns=>K (.s (.one (.fn f ns))) st
  |_,_,_ =>.ff
 |.call c=>uX cx st o c K
 |op=>lI cx st op fun sv=>K sv st
def rQ(cx:Cx)(st:St)(o:Oper)(K:SV->St->VC):VC:=
 match wm cx st o K with
 |some vc=>vc
 |none=>wq cx st o K
def kindOf(cx:Cx)(o:Oper):Nat:=
 match o.op with
 |.move _|.assign _=>0
 |.convert _ t _=>match look cx.τ t with
  |some (.int _)=>0
  |_=>3
 |.pick _ _ _|.unOp _ _ _|.extract _ _|.binOp _ _ _ _ _|.makeInterface _ _|.typeAssert _ _ _ _|.index _ _ _|.build _ _|.nilCheck _|.indexAddr _ _ _|.fieldAddr _ _ _|.slice _ _ _ _ _|.makeFunc _ _ _=>0
 |.load _ _=>1
 |.alloc _|.box _ _|.buildSlice _ _ _|.makeSlice _ _ _=>2
 |.call c=>match c.callee with
  |.builtin .len=>match c.argTypes.toList with
   |[t]=>match look cx.mQ t with
    |some _=>3
    |none=>0
   |_=>0
  |.builtin .max=>0
  |.builtin .min=>0
  |.value (.func f)=>match look cx.Γ f with
   |some (true,_)=>2
   |_=>3
  |.value _=>match n9 cx o.dst with
   |true=>2
   |false=>3
  |_=>3
 |_=>3
section
variable{X:Ext}{P:Program}{cx:Cx}
def AA(cx:Cx)(X:Ext)(O:aD)(K:SV->St->VC)(st:St)(S:aY)(loud:Bool)(a:Act)(dst:Option Tmp):Act->World->Prop:=
 fun a' w'=>∃v sv st' loc',a'=a.put dst v/\(K sv st').holds/\st'.env=st.env/\(loud=false->Below S.w.heap.size S.w w')/\Good cx.eT X (aB O st' loc' w')/\Tr S (aB O st' loc' w')/\cR cx.eT (aB O st' loc' w') sv v
structure cF (P:Program) (eT:TypeId) (X:Ext) (f:FuncId) (quiet:Bool) (sp:bA):Prop where
 fn:∃fn,P.funcs[f]?=some fn/\fn.body.isNone=false/\(fn.name == "runtime.NumGoroutine")=false
 ok:∀O st loc w args vs K,(sp args st K).holds->Good eT X (aB O st loc w)->dA O w->bW eT (aB O st loc w) args vs->
  Calls P f vs.toArray w fun e w'=>∃v sv st' loc',e=.returned v/\(K sv st').holds/\st'.env=st.env/\(quiet=true->Below w.heap.size w w')/\Good eT X (aB O st' loc' w')/\
   Tr (aB O st loc w) (aB O st' loc' w')/\cR eT (aB O st' loc' w') sv v
structure ik (P:Program) (cx:Cx) (X:Ext):Prop extends TyOK P cx where
 calls:∀f q sp,look cx.Γ f=some (q,sp)->cF P cx.eT X f q sp
variable{Q:Exit->Act->World->Prop}
def dw{o:Oper}{a:Act}{w w':World}{v:Value}{Kw:Act->World->Prop}(h:(execOp a.eval o).run P w=.ok (.value v) w')(hk:Kw (a.put o.dst v) w'):o.wp P a w Kw Q:=by
 unfold bk;rw[h];exact hk
def rR{f:FuncId}{fn:Func}(hfn:P.funcs[f]?=some fn)(hbody:fn.body.isNone=false)(hname:(fn.name == "runtime.NumGoroutine")=false)(args:Array Value)(w:World) :
  (callFunc f args).run P w=.ok (.enter f args) w:=by
 unfold callFunc;simp only[af,run_program,ar,hfn,hname,hbody,a7,if_false,ak]
def rS{O:aD}{st:St}{loc:Nat->Loc}{w:World}{a:Act}(he:en cx.eT (aB O st loc w) st.env a):∀{xs:List Operand} {ns:List Nat},n8 st st.env xs=some ns->
  xs.map a.eval=ns.map (fun n=>(loc n).v)/\∀n∈ns,n<st.next/\(aB O st loc w).fixed n:=by
 intro xs;induction xs with
 |nil=>intro ns h;simp[n8]at h;subst h;simp
 |cons x xs ih=>
  intro ns h;simp only[n8]at h;split at h
  ·rename_i n ns' hx hxs
   split at h
   ·rename_i T cs hob
    cases h;obtain⟨k1,k2⟩:=ih hxs;have hr:=bD he x;rw[hx]at hr;obtain⟨b,h1,h2⟩:=hr.2 _ _ hob;refine⟨by simp only[List.map_cons,k1];congr 1;rw[h2];exact h1.symm,fun m hm =>?_⟩;rcases ag.1 hm with rfl|hm
    ·exact⟨hr.1,fun t ys e=>by simp only[aB]at e;rw[hob]at e;cases e⟩
    ·exact k2 m hm
   ·cases h
  ·cases h
def bW.append{eT:TypeId}{S:aY}{xs ys:List bT}{us vs:List Value}(h:bW eT S xs us)(h':bW eT S ys vs):bW eT S (xs++ys) (us++vs):=by
 induction h with
 |nil=>exact h'
 |cons h1 _ ih=>exact .cons h1 ih
def Jk{O:aD}{st:St}{loc:Nat->Loc}{w:World}(g:Good cx.eT X (aB O st loc w)):∀{ns:List Nat},(∀n∈ns,n<st.next)->bW cx.eT (aB O st loc w) (ns.map fun n =>.one (.ref n 0)) (ns.map fun n=>(loc n).v):=by
 intro ns;induction ns with
 |nil=>intro _;exact .nil
 |cons n ns ih=>
  intro h;refine .cons ⟨h n (by simp),fun T cs hob =>?_⟩ (ih fun m hm=>h m (by simp[hm]));obtain⟨_,b,vs,hl,_⟩:=g.obj _ _ hob;exact⟨b,hl,hl⟩
def Bp{S:aY}{env:List (Nat×SV)}{a:Act}(he:en cx.eT S env a):∀(xs:List Operand),bW cx.eT S (xs.map fun x=>nA env x) (xs.map a.eval)
 |[] =>.nil
 |x :: xs =>.cons (ij he x) (Bp he xs)
def qf{S:aY}{mx:Bool}{x y:C}{K:C->VC}{v1 v2:Value}(hx:CR cx.eT S x v1)(hy:CR cx.eT S y v2)(h:(Fc mx x y K).holds) :
  ∃c v,(K c).holds/\CR cx.eT S c v/\∀w,(if mx then gE v1 v2 else hE v1 v2).run P w=.ok v w:=by
 unfold Fc at h;split at h
 ·rename_i k a k' b
  obtain⟨rfl,ha⟩:=bZ.1 hx;obtain⟨rfl,hb⟩:=bZ.1 hy;split at h
  ·rename_i hk
   simp at hk;subst hk;refine⟨_,_,h,bZ.2 ⟨rfl,?_⟩,fun w=>by simp[gE,xL]⟩;unfold xL;split <;> assumption
  ·rename_i hk
   simp at hk;subst hk;refine⟨_,_,h,bZ.2 ⟨rfl,?_⟩,fun w=>by simp[hE,Jj]⟩;unfold Jj;split <;> assumption
  ·exact h.elim
 ·exact h.elim
def foldl_push(ns:List Int):∀s:ByteArray,ns.foldl (fun r n=>r.push (UInt8.ofNat n.toNat)) s=⟨s.data++(bytesOf ns).toArray⟩:=by
 induction ns with
 |nil=>intro s;simp[bytesOf]
 |cons n ns ih=>
  intro s;rw[cw,ih];simp[bytesOf,ByteArray.push]
def KZ{eT:TypeId}{A:aD}{w:World}{ys:List Int}{cs:List Value}(hl:cs.length=ys.length)(h:ee eT (.int .u8) ys A w cs):cs=ys.map (Value.int .u8):=by
 apply List.ext_getElem?;intro i;cases hy:ys[i]? with
 |none=>
  have:ys.length<=i:=List.getElem?_eq_none_iff.1 hy;rw[List.getElem?_eq_none (by omega),List.getElem?_eq_none (by simpa using this)]
 |some y=>
  obtain⟨us,h1,h2⟩:=h i y hy;obtain⟨rfl,_⟩:=h1;have:=h2 0 _ rfl;simp only[Ty.size,cy,cz]at this;rw[this,List.getElem?_map,hy];rfl
def xM(hok:TyOK P cx){O:aD}{st:St}{loc:Nat->Loc}{w:World}(g:Good cx.eT X (aB O st loc w)){s t:TypeId}(hs:look cx.τ s=some (.slice (.int .u8)))(ht:look cx.τ t=some .str)
  {x:C}{v0:Value}(hx:CR cx.eT (aB O st loc w) x v0){K:C->VC}(h:(qd st x K).holds) :
  ∃c v,(K c).holds/\CR cx.eT (aB O st loc w) c v/\(convert s t v0).run P w=.ok v w:=by
 obtain⟨_,i1,d1,hf1,hs1⟩:=dK hok hs;cases d1 <;> simp[bL]at hs1;rename_i te;have hu:=hf1.fa;obtain⟨_,_,d3,_,hf3,hs3⟩:=gW hs1;have hte:P.underlying te=some (.int .u8):=by
  cases d3 <;> simp[bL]at hs3;subst hs3;exact hf3.fa
 obtain⟨_,i2,d2,hf2,hs2⟩:=dK hok ht;have hd2:d2=.string:=by cases d2 <;> simp[bL]at hs2;rfl
 subst hd2;unfold qd at h;split at h
 ·rename_i ys hys
  obtain⟨hlen,h⟩:=h;refine⟨_,.string ⟨(bytesOf ys).toArray⟩,h,fG.2 ⟨rfl,by simpa[bytesOf]using hlen⟩,?_⟩;rcases qa g hys hx with⟨rfl,a0,c0,rfl⟩|⟨b,o,cap,cs,rfl,h1,h2,h3,_⟩
  ·rcases a0 with _|a0
   ·rw[run_convert_bytes_string w s t te none 0 c0 hu hte hf2.fa]
    rfl
   ·rw[run_convert_bytes_string w s t te _ _ _ hu hte hf2.fa]
    rw[run_bytesToString w a0 0 c0 [],foldl_push]
    ·simp
    ·have:=run_loadCells_list (P:=P) w a0 [] (fun j u hj=>by simp at hj)
     simpa using this
  ·rw[run_convert_bytes_string w s t te _ _ _ hu hte hf2.fa]
   simp only[Ty.size,cy]at h1;have hcs:=KZ h1 h3;rw[run_bytesToString w ⟨b,o,none⟩ ys.length cap ys,foldl_push]
   ·simp
   ·rw[<-h1,run_loadCells_list w _ cs (fun j u hj=>by rw[bu];exact h2 j u hj),hcs]
 ·exact h.elim
def tV(s:List UInt8)(i:Nat):(aZ s)[i]?=s[i]?.map fun b=>(b.toNat:Int):=by
 simp[aZ]
def yF{S:aY}{d:Option Tmp}{v u:SV}{val:Value}(h:Fe cx d v=some u)(hv:cR cx.eT S v val):cR cx.eT S u val:=by
 unfold Fe at h;split at h
 ·split at h
  ·cases h
   exact hv.1
  ·cases h
 ·cases h
def xN(hok:TyOK P cx){O:aD}{st:St}{loc:Nat->Loc}{w:World}(g:Good cx.eT X (aB O st loc w))(hO:dA O w){s t:TypeId}(hs:look cx.τ s=some .str)(ht:look cx.τ t=some (.slice (.int .u8)))
  {x:C}{v0:Value}(hx:CR cx.eT (aB O st loc w) x v0){K:SV->St->VC}(h:(qe st x K).holds) :
  ∃sv v w',(K sv st).holds/\cR cx.eT (aB O st loc w') sv v/\(convert s t v0).run P w=.ok v w'/\Below w.heap.size w w':=by
 obtain⟨_,i1,d1,hf1,hs1⟩:=dK hok ht;cases d1 <;> simp[bL]at hs1;rename_i te;obtain⟨_,_,d3,_,hf3,hs3⟩:=gW hs1;have hte:P.underlying te=some (.int .u8):=by
  cases d3 <;> simp[bL]at hs3;subst hs3;exact hf3.fa
 obtain⟨_,i2,d2,hf2,_⟩:=dK hok hs;unfold qe at h;split at h
 case h_2=>exact h.elim
 rename_i s0;obtain⟨rfl,hbig⟩:=fG.1 hx;have hrun:=Lib.run_convert_string_bytes (P:=P) w s t te ⟨s0.toArray⟩ hf2.fa hf1.fa hte;have hbl:Below w.heap.size w (Lib.bytesWorld w te ⟨s0.toArray⟩):=⟨rfl,rfl,by rw[Lib.bytesWorld_size];omega,fun k hk=>Lib.bytesWorld_at_old w te _ k hk⟩;refine⟨_,_,_,h,?_,hrun,hbl⟩;have hA:∀o,¬(aB O st loc w).A w.heap.size o:=by
  rintro o (h|⟨n,oc,h1,h2,_⟩)
  ·exact absurd (hO _ _ h) (Nat.lt_irrefl _)
  ·exact absurd ((g.obj n oc h1).2.inside _ h2) (Nat.lt_irrefl _)
 have hsz:(⟨s0.toArray⟩:ByteArray).size=s0.length:=by simp[ByteArray.size]
 show VR cx.eT (.slice (.int .u8)) (aZ s0) _ _ _;refine VR.bQ rfl ⟨_,rfl,by simpa[aZ]using hbig,.inr ⟨w.heap.size,0,grownCap w s0.length 0 te,by rw[hsz];simp[aZ],by simp only[aZ,ca];exact grownCap_ge _ _ _ _,fun i y hy=>⟨[.int .u8 y],?_,?_⟩⟩⟩
 ·rw[tV]at hy
  cases hb:s0[i]? with
  |none=>rw[hb]at hy;cases hy
  |some b=>
   rw[hb]at hy;cases hy;have h1:=b.toNat_lt;have h2:cb.min=0:=by decide
   have h3:cb.max=255:=by decide
   refine⟨rfl,?_,?_⟩
   ·show cb.min<=((b.toNat:Nat):Int);omega
   ·show((b.toNat:Nat):Int)<=cb.max;omega
 ·intro j u hj
  cases j with
  |succ j=>simp at hj
  |zero=>
   simp at hj;subst hj;refine⟨?_,hA _⟩;rw[tV]at hy;cases hb:s0[i]? with
   |none=>rw[hb]at hy;cases hy
   |some b=>
    rw[hb]at hy;cases hy;have hlt:i<s0.length:=(List.getElem?_eq_some_iff.1 hb).1;have:=Lib.bytesWorld_cell w te ⟨s0.toArray⟩ i (by rw[hsz];exact hlt);simp only[aB,Ty.size,cy,ay,cz];rw[this];simp[List.getD,hb]
def GZ(hok:ik P cx X){O:aD}{st:St}{loc:Nat->Loc}{w:World}{a:Act}(g:Good cx.eT X (aB O st loc w))(hO:dA O w)(he:en cx.eT (aB O st loc w) st.env a)
  {o:Oper}{K:SV->St->VC}(h:(wq cx st o K).holds):o.wp P a w (AA cx X O K st (aB O st loc w) (ab (kindOf cx o) 3) a o.dst) Q:=by
 have read:(lI cx st o.op fun sv=>K sv st).holds->o.wp P a w (AA cx X O K st (aB O st loc w) (ab (kindOf cx o) 3) a o.dst) Q:=by
  intro h;obtain⟨sv,v,h1,h2,h3⟩:=Ba hok.toTyOK g he h;exact dw h3 ⟨v,sv,st,loc,rfl,h1,rfl,fun _=>Below.refl _ _,g,Tr.refl _,h2⟩
 have mov:∀x ty,(execOp a.eval o).run P w=.ok (.value (a.eval x)) w->(ta cx st x ty K).holds->o.wp P a w (AA cx X O K st (aB O st loc w) (ab (kindOf cx o) 3) a o.dst) Q:=by
  intro x ty hrun h;obtain⟨sv,st',loc',h1,h2,h3,h4,h5⟩:=tS g hO he h;exact dw hrun ⟨_,sv,st',loc',rfl,h1,h2,fun _=>Below.refl _ _,h3,h4,h5⟩
 unfold wq at h;split at h
 ·rename_i s t x hop
  unfold uY at h;split at h
  ·rename_i hs ht
   obtain⟨c,v,h1,h2,h3⟩:=xM hok.toTyOK g hs ht (bD he x) h;exact dw (w':=w) (by simp only[execOp,hop,af,ak];rw[h3];rfl) ⟨v,_,st,loc,rfl,h1,rfl,fun _=>Below.refl _ _,g,Tr.refl _,h2⟩
  ·rename_i hs ht
   obtain⟨sv,v,w',h1,h2,h3,h4⟩:=xN hok.toTyOK g hO hs ht (bD he x) h;obtain⟨t1,g1⟩:=lE (S:=aB O st loc w) (S':=aB O st loc w') g rfl rfl rfl rfl h4;exact dw (w':=w') (by simp only[execOp,hop,af,ak];rw[h3];rfl) ⟨v,sv,st,loc,rfl,h1,rfl,fun _=>h4,g1,t1,h2⟩
  ·exact read h
  ·exact h.elim
 ·rename_i x hop
  exact mov x _ (by simp[execOp,hop]) h
 ·rename_i x hop
  unfold Ff at h;split at h
  ·obtain⟨sv,st',loc',h1,h2,h3,h4,h5⟩:=rP g hO he h
   exact dw (w':=w) (v:=a.eval x) (by simp[execOp,hop]) ⟨_,sv,st',loc',rfl,h1,h2,fun _=>Below.refl _ _,h3,h4,h5⟩
  ·split at h
   ·rename_i hd
    exact dw (w':=w) (v:=a.eval x) (by simp[execOp,hop]) ⟨_,_,st,loc,rfl,h,rfl,fun _=>Below.refl _ _,g,Tr.refl _,yF hd (ig he x)⟩
   ·exact mov x _ (by simp[execOp,hop]) h
 ·rename_i t hop
  split at h
  ·rename_i e hslf
   obtain⟨i,hi,hz⟩:=hok.oD t e hslf;have hb:Below w.heap.size w (w.alloc (.cells #[.pointer none,.slice none 0 0] t)):=(Below.refl _ w).alloc (ai _) _;obtain⟨tr1,g1⟩:=eJ (oc:=.ext 2 ky ([],(t:Int),(e:Int),())) (l:=⟨.pointer (some ⟨w.heap.size,0,none⟩),[w.heap.size]⟩) g hO hb (by simp);have g1:=g1 (X.GJ.2 ⟨rfl,w.heap.size,.pointer none,.slice none 0 0,rfl,.inl rfl,heap_alloc_new w _,⟨by simp,.inl ⟨rfl,rfl⟩⟩,rfl,by simp[Value.ownBlock],(fun y hy=>by simp at hy),(fun a n c hh=>by cases hh)⟩);refine dw (w':=w.alloc (.cells #[.pointer none,.slice none 0 0] t)) (v:=.pointer (some ⟨w.heap.size,0,none⟩)) (by simp[execOp,hop,c6,zeroValue,typeInfo,hi,hz,newVar,newRow,bx])
    ⟨_,_,_,_,rfl,h,rfl,fun _=>hb,g1,tr1,⟨by simp[aB,fresh],fun oc hy hx =>?_⟩⟩
   simp[aB,bI]
  unfold Ef at h;split at h
  ·rename_i ty ht
   obtain⟨m,ti,d,hf,hs⟩:=dK hok.toTyOK ht;obtain⟨z,hz,hzr⟩:=hf.zero;obtain⟨sv,st',loc',h1,h2,h3,h4,h5⟩:=GR (t:=t) (ts:=ln ty) g hO (gX hzr) h;refine dw (w':=w.alloc (.cells z.cells.toList.toArray t)) ?_ ⟨_,sv,st',loc',rfl,h1,h2,fun _=>(Below.refl _ w).alloc (ai _) _,h3,h4,h5⟩;simp[execOp,hop,c6,zeroValue,typeInfo,hf.info,hz,newVar,newRow]
  ·split at h
   case h_2=>exact h.elim
   rename_i n te hn;split at h
   case h_2=>exact h.elim
   rename_i e he;split at h
   case h_2=>exact h.elim
   rename_i hno;obtain⟨i,z,hi,hz,hzr⟩:=hok.p5 t n te e hn he;have hb:Below w.heap.size w (w.alloc (.cells z.cells.toList.toArray t)):=(Below.refl _ w).alloc (ai _) _;obtain⟨tr1,g1⟩:=eJ (oc:=.arr e (hI n (cE e))) (l:=⟨.pointer (some ⟨w.heap.size,0,none⟩),[w.heap.size]⟩) g hO hb (by simp);obtain⟨hl,hel⟩:=Bd (eT:=cx.eT) (A:=(aB O (fresh st (.arr e (hI n (cE e)))) (bI loc st.next ⟨.pointer (some ⟨w.heap.size,0,none⟩),[w.heap.size]⟩) (w.alloc (.cells z.cells.toList.toArray t))).A) (w:=w.alloc (.cells z.cells.toList.toArray t)) hno hzr;have g1:=g1 ⟨w.heap.size,z.cells.toList.toArray,t,rfl,rfl,heap_alloc_new w _,by simp only[bw,List.length_replicate];exact hl,fun j y hy=>by
    obtain⟨us,k1,k2⟩:=hel j y hy;exact⟨us,k1,fun q u hq=>by simpa using k2 q u hq⟩⟩
   refine dw (w':=w.alloc (.cells z.cells.toList.toArray t)) ?_ ⟨.pointer (some ⟨w.heap.size,0,none⟩),_,_,_,rfl,h,rfl,fun _=>hb,g1,tr1,?_⟩
   ·simp[execOp,hop,c6,zeroValue,typeInfo,hi,hz,newVar,newRow]
   ·show st.next<st.next+1/\_
    refine⟨by omega,fun t' xs' hx =>?_⟩;simp[aB,bI]
 ·rename_i t x hop
  unfold Kr at h;split at h
  ·rename_i ty ht
   split at h
   ·rename_i cs0 hfl
    obtain⟨us,hus,hcr,_⟩:=oE g hfl (ij he x);obtain⟨sv,st',loc',h1,h2,h3,h4,h5⟩:=GR (t:=t) (ts:=ln ty) g hO hcr h;refine dw (w':=w.alloc (.cells us.toArray t)) ?_ ⟨_,sv,st',loc',rfl,h1,h2,fun _=>(Below.refl _ w).alloc (ai _) _,h3,h4,h5⟩;subst hus;simp[execOp,hop,Instr.box,newVar,newRow]
   ·exact h.elim
  ·exact h.elim
 ·rename_i t ps hop
  obtain⟨sv,v,h1,h2,h3⟩:=re hok.toTyOK g he h;exact dw (by have:=h3 w;simp only[execOp,hop,af,ak];rw[this];rfl) ⟨v,sv,st,loc,rfl,h1,rfl,fun _=>Below.refl _ _,g,Tr.refl _,h2⟩
 ·rename_i t n ps hop
  split at h
  ·obtain⟨sv,v,st',loc',w',h1,h2,h3,h4,h5,h6,h7⟩:=uR hok.toTyOK g hO he h
   exact dw (by simp only[execOp,hop,af,ak];rw[h7];rfl) ⟨v,sv,st',loc',rfl,h1,h3,fun _=>h2,h4,h5,h6⟩
  unfold yE at h;split at h
  ·rename_i sv0 hown
   have hp:∃x,n=1/\ps.toList=[(0,x)]/\e8 cx.eT (aB O st loc w) sv0 (a.eval x):=by
    unfold El at hown;split at hown
    ·rename_i x hps
     have hr:=ij he x;split at hown
     ·rename_i m hm;cases hown;exact⟨x,rfl,hps,by rw[<-hm];exact hr⟩
     ·rename_i cs hm
      split at hown
      ·cases hown;exact⟨x,rfl,hps,by rw[<-hm];exact hr⟩
      ·cases hown
     ·cases hown
    ·cases hown
   obtain⟨x,rfl,hps,hr⟩:=hp;obtain⟨sv,v,st',loc',w',h1,h2,h3,h4,h5,h6,h7⟩:=wh hok.toTyOK g hO hr h;have hps':ps= #[(0,x)]:=aj.1 hps;exact dw (w':=w') (v:=v) (by simp only[execOp,hop,af,ak,hps'];rw[show(#[(0,x)]:Array (Nat×Operand)).map (fun(i,x)=>(i,a.eval x))= #[(0,a.eval x)]from by simp,h7];rfl) ⟨v,sv,st',loc',rfl,h1,h2,fun _=>h3,h4,h5,h6⟩
  obtain⟨c,v,w',h1,h2,h3,h4,h5,h6⟩:=rH hok.toTyOK g hO he h;exact dw (by simp only[execOp,hop,af,ak];rw[h6];rfl) ⟨v,_,st,loc,rfl,h1,rfl,fun _=>h2,h3,h4,h5⟩
 ·rename_i t l c hop
  obtain⟨sv,v,st',loc',w',h1,h2,h3,h4,h5,h6,h7⟩:=tL hok.toTyOK g hO (bD he l) (bD he c) h;exact dw (by simp only[execOp,hop,af,ak];rw[h7];rfl) ⟨v,sv,st',loc',rfl,h1,h3,fun _=>h2,h4,h5,h6⟩
 ·rename_i t x v hop
  have hst:∃st' loc' w',(K (.s (.one .any)) st').holds/\st'.env=st.env/\Good cx.eT X (aB O st' loc' w')/\Tr (aB O st loc w) (aB O st' loc' w')/\(Instr.storeAt t (a.eval x) (a.eval v)).run P w=.ok () w':=by
   have hx:=bD he x;unfold L3 at h;split at h
   ·rename_i n i j hl
    rw[hl]at hx;split at h
    ·rename_i ty ht
     obtain⟨_,_,_,hf,_⟩:=dK hok.toTyOK ht;exact wi g hO hf hx (ij he v) h
    ·exact h.elim
   ·split at h
    ·rename_i n hr
     split at h
     ·rename_i e zs hob
      have hv:=ij he v;rw[GY hr]at hv;obtain⟨td,gd⟩:=jC g n;obtain⟨st',loc',w',k1,k2,k3,k4,k5⟩:=rb (v:=.one (.d (.slice e) zs)) hok.toTyOK gd hO (hx.tr td) (tU g hob hv) h;exact⟨st',loc',w',k1,k2,k3,td.trans k4,k5⟩
     ·exact h.elim
    ·exact rb hok.toTyOK g hO hx (ij he v) h
  obtain⟨st',loc',w',h1,h2,h3,h4,h5⟩:=hst;have hrun:(execOp a.eval o).run P w=.ok .skip w':=by
   simp only[execOp,hop,af,ak];rw[h5];rfl
  unfold bk;rw[hrun];have hk:ab (kindOf cx o) 3=true:=by simp[kindOf,hop]
  exact⟨undef,_,st',loc',rfl,h1,h2,fun e=>(by rw[hk]at e;cases e),h3,h4,aa⟩
 ·rename_i fn first caps hop
  split at h
  ·rename_i f ns hfi hcn
   obtain⟨k1,k2⟩:=rS he hcn;have hfi':first= #[]:=aj.1 hfi
   have hca:caps.map a.eval=(ns.map fun n=>(loc n).v).toArray:=by
    apply aj.1;rw[hJ,k1]
   refine dw (w':=w) (v:=.func (.func f) #[] (ns.map fun n=>(loc n).v).toArray) ?_ ⟨_,_,st,loc,rfl,h,rfl,fun _=>Below.refl _ _,g,Tr.refl _,⟨rfl,k2⟩⟩;simp[execOp,hop,hL,hfi',hca]
  ·exact h.elim
 ·rename_i c hop
  unfold uX at h;split at h
  ·rename_i f hcal
   unfold GX at h;split at h
   ·rename_i k caps hf
    split at h
    ·rename_i q sp hsp
     split at h
     ·exact h.elim
     rename_i hstill;obtain⟨⟨fn,hfn,hbody,hname⟩,hcall⟩:=hok.calls k q sp hsp;have hr:=bD he f;rw[hf]at hr;obtain⟨hfv,hcaps⟩:=hr;have hargs:=(Bp he c.args.toList).append (Jk g (ns:=caps) fun n hn=>(hcaps n hn).1);have:=hcall O st loc w _ _ K h g hO hargs;have hrun:(execOp a.eval o).run P w=.ok (.enter k (c.args.toList.map a.eval++caps.map fun n=>(loc n).v).toArray) w:=by
      have e1:(c.args.map a.eval)++(caps.map fun n=>((aB O st loc w).loc n).v).toArray=(c.args.toList.map a.eval++caps.map fun n=>(loc n).v).toArray:=by
       apply aj.1;simp[aB]
      have e2:resolve a.eval c o.type=pure {target:=.fn (.func k) (caps.map fun n=>((aB O st loc w).loc n).v).toArray,args:=c.args.map a.eval}:=by
       simp[resolve,hcal,hfv,Deferred.ofValue]
      simp only[execOp,hop,e2,pure_bind,invoke,e1];exact rR hfn hbody hname _ w
     unfold bk;rw[hrun];refine bz this ?_;rintro e w' ⟨v,sv,st',loc',rfl,k1,k2,k3,k4,k5,k6⟩;refine⟨v,sv,st',loc',rfl,k1,k2,fun hl =>?_,k4,k5,k6⟩;cases q with
     |true=>exact k3 rfl
     |false=>
      exfalso;have:kindOf cx o=3:=by
       unfold kindOf;simp only[hop,hcal];split
       ·rename_i heq;cases heq
       ·rename_i heq;cases heq
       ·rename_i heq;cases heq
       ·rename_i f' heq
        have hfe:f=.func f':=by cases heq;rfl
        subst hfe;simp only[di,ev]at hf;cases hf;rw[hsp]
       ·rw[show n9 cx o.dst=false by simpa using hstill]
       ·rfl
      rw[this]at hl;cases hl
    ·exact h.elim
   ·exact h.elim
  ·rename_i hcal
   split at h
   ·rename_i s x t t' harg hty
    split at h
    ·rename_i htt
     have htt:=ah htt;subst htt;have h1:c.args= #[s,x]:=aj.1 harg;have h2:c.argTypes= #[t,t]:=aj.1 hty;have happ:∃sv v st' loc' w',(K sv st').holds/\st'.env=st.env/\Good cx.eT X (aB O st' loc' w')/\Tr (aB O st loc w) (aB O st' loc' w')/\cR cx.eT (aB O st' loc' w') sv v/\
       (b7 #[t,t] o.type #[a.eval s,a.eval x]).run P w=.ok v w':=by
      have hs:=bD he s;have hx:=bD he x;split at h
      ·rename_i n m hl1 hl2
       rw[hl1]at hs;rw[hl2]at hx;exact Am hok.toTyOK g hO hs hx h
      ·rename_i n hl1
       rw[hl1]at hs;split at h
       ·exact Bn hok.toTyOK g hO hs hx h
       ·exact pz (P:=P) (ty:=o.type) hok.toTyOK g hO hs hx h
      ·exact pz (P:=P) (ty:=o.type) hok.toTyOK g hO hs hx h
     obtain⟨sv,v,st',loc',w',k1,k2,k3,k4,k5,k6⟩:=happ;have hk:ab (kindOf cx o) 3=true:=by simp[kindOf,hop,hcal]
     refine dw (w':=w') (v:=v) ?_ ⟨v,sv,st',loc',rfl,k1,k2,fun e=>(by rw[hk]at e;cases e),k3,k4,k5⟩;simp[execOp,hop,resolve,hcal,h1,h2,invoke,builtin,k6]
    ·split at h
     case h_2=>exact h.elim
     rename_i e' xs n ys ht1 ht2 hs1 hx1;have h1:c.args= #[s,x]:=aj.1 harg;have h2:c.argTypes= #[t,t']:=aj.1 hty;obtain⟨te,ti,td,hu,hf⟩:=eO hok.toTyOK ht1;obtain⟨z,hz,hzr⟩:=hf.zero;have hzs:z.cells.size=(Ty.int .u8).size:=by rw[<-b8];exact(gX (S:=aB O st loc w) (cx:=cx) hzr).length.symm.trans (fo _)
     have hs:=bD he s;have hx:=bD he x;rw[hs1]at hs;rw[hx1]at hx;obtain⟨hx,hxl⟩:=fG.1 hx;have hu':P.underlying t'=some .string:=s7 hok.toTyOK ht2;obtain⟨sv,v,st',loc',w',k1,k2,k3,k4,k5,k6⟩:=o4 (t:=t) (t':=t') (ty:=o.type) g hO hu hf hz hzs hs (rE.L1 hu hu' hf hz ys _ _) h;have hk:ab (kindOf cx o) 3=true:=by simp[kindOf,hop,hcal]
     refine dw (w':=w') (v:=v) ?_ ⟨v,sv,st',loc',rfl,k1,k2,fun e=>(by rw[hk]at e;cases e),k3,k4,k5⟩;simp[execOp,hop,resolve,hcal,h1,h2,invoke,builtin,hx,k6]
   ·exact h.elim
  ·rename_i hcal
   split at h
   ·rename_i d s t t' harg hty
    have h1:c.args= #[d,s]:=aj.1 harg;have h2:c.argTypes= #[t,t']:=aj.1 hty;obtain⟨sv,v,st',loc',w',k1,k2,k3,k4,k5,k6⟩:=Bi (P:=P) (t':=t') (ty:=o.type) hok.toTyOK g hO (bD he d) (bD he s) h;have hk:ab (kindOf cx o) 3=true:=by simp[kindOf,hop,hcal]
    refine dw (w':=w') (v:=v) ?_ ⟨v,sv,st',loc',rfl,k1,k2,fun e=>(by rw[hk]at e;cases e),k3,k4,k5⟩;simp[execOp,hop,resolve,hcal,h1,h2,invoke,builtin,k6]
   ·exact h.elim
  ·rename_i hcal
   split at h
   ·rename_i x y harg
    have h1:c.args= #[x,y]:=aj.1 harg;obtain⟨c',v,k1,k2,k3⟩:=qf (P:=P) (bD he x) (bD he y) h;refine dw (w':=w) (v:=v) ?_ ⟨v,_,st,loc,rfl,k1,rfl,fun _=>Below.refl _ _,g,Tr.refl _,k2⟩;have k3:=k3 w;simp only[if_true]at k3;simp[execOp,hop,resolve,hcal,h1,invoke,builtin,hM,k3]
   ·exact h.elim
  ·rename_i hcal
   split at h
   ·rename_i x y harg
    have h1:c.args= #[x,y]:=aj.1 harg;obtain⟨c',v,k1,k2,k3⟩:=qf (P:=P) (bD he x) (bD he y) h;refine dw (w':=w) (v:=v) ?_ ⟨v,_,st,loc,rfl,k1,rfl,fun _=>Below.refl _ _,g,Tr.refl _,k2⟩;have k3:=k3 w;simp only[a7,if_false]at k3;simp[execOp,hop,resolve,hcal,h1,invoke,builtin,hP,k3]
   ·exact h.elim
  ·exact read h
 ·exact read h
def qg{st:St}{o:Oper}{K:SV->St->VC}{vc:VC}(h:wm cx st o K=some vc):kindOf cx o=3:=by
 unfold wm at h;split at h
 ·rename_i hop;simp[kindOf,hop]
 ·rename_i hop;simp[kindOf,hop]
 ·rename_i hop;simp[kindOf,hop]
 ·rename_i hop;simp[kindOf,hop]
 ·rename_i hop;simp[kindOf,hop]
 ·rename_i hop;simp[kindOf,hop]
 ·rename_i c hop
  split at h
  ·rename_i hcal;simp[kindOf,hop,hcal]
  ·rename_i hcal
   split at h
   ·rename_i x t harg hty
    split at h
    ·rename_i p hp;simp[kindOf,hop,hcal,hty,hp]
    ·cases h
   ·cases h
  ·cases h
 ·cases h
def Jl(hok:ik P cx X){O:aD}{st:St}{loc:Nat->Loc}{w:World}{a:Act}(g:Good cx.eT X (aB O st loc w))(hO:dA O w)(he:en cx.eT (aB O st loc w) st.env a)
  {o:Oper}{K:SV->St->VC}(h:(rQ cx st o K).holds):o.wp P a w (AA cx X O K st (aB O st loc w) (ab (kindOf cx o) 3) a o.dst) Q:=by
 unfold rQ at h;split at h
 ·rename_i vc hm
  have hk:ab (kindOf cx o) 3=true:=by rw[qg hm];rfl
  obtain⟨sv,v,st',loc',w',h1,h2,h3,h4,h5,h6⟩:=Ds hok.toTyOK g hO he hm h;rcases h6 with h6|⟨h6,rfl⟩
  ·exact dw h6 ⟨v,sv,st',loc',rfl,h1,h2,fun e=>(by rw[hk]at e;cases e),h3,h4,h5⟩
  ·unfold bk
   rw[h6];exact⟨undef,_,st',loc',rfl,h1,h2,fun e=>(by rw[hk]at e;cases e),h3,h4,aa⟩
 ·exact GZ hok g hO he h
end
inductive mR (ops:Array Oper) (i:Nat):Nat->Prop
 |dir {j o e}:ops[j]?=some o->e∈o.after->ao .any e=true->e.on=i->mR ops i j
 |step {j o e}:ops[j]?=some o->e∈o.after->ao .any e=true->mR ops i e.on->mR ops i j
def pB(ops:Array Oper)(listed:Array Bool):Prop:=
 ∀j o,ops[j]?=some o->listed.getD j false=true->∀e∈o.after,ao .any e=true->listed.getD e.on false=true
def mR.listed{ops:Array Oper}{listed:Array Bool}{i j:Nat}(h:mR ops i j)(hc:pB ops listed):(∀o,ops[j]?=some o->∀e∈o.after,ao .any e=true->listed.getD e.on false=true)->listed.getD i false=true:=by
 induction h with
 |dir ho he hb hi=>intro hj;rw[<-hi];exact hj _ ho _ he hb
 |step ho he hb _ ih=>intro hj;exact ih fun o' ho'=>hc _ o' ho' (hj _ ho _ he hb)
def Bq(ms:List Nat)(o:Oper):Nat:=
 o.after.toList.foldl (fun s e=>match ao .any e with
  |true=>s ||| (1<<< e.on) ||| ms.getD e.on 0
  |false=>s) 0
def mh:List Oper->List Nat->List Nat
 |[],ms=>ms
 |o :: r,ms=>mh r (ms++[Bq ms o])
def wu{k i:Nat}(h:(1<<< k).testBit i=true):k=i:=by
 rw[c7,cd]at h;simpa using h
def Fg{ops:Array Oper}{ms:List Nat}(hms:∀j,j<ms.length->∀i,(ms.getD j 0).testBit i=true->mR ops i j){j:Nat}{o:Oper}(ho:ops[j]?=some o) :
  ∀i,(Bq ms o).testBit i=true->mR ops i j:=by
 intro i hi;unfold Bq at hi;have key:∀(l:List Edge) (s:Nat),(∀e∈l,e∈o.after)->(s.testBit i=true->mR ops i j)->
   (l.foldl (fun s e=>match ao .any e with|true=>s ||| (1<<< e.on) ||| ms.getD e.on 0|false=>s) s).testBit i=true->mR ops i j:=by
  intro l;induction l with
  |nil=>intro s _ hs h;exact hs h
  |cons e l ih=>
   intro s hl hs h;simp only[cw]at h;refine ih _ (fun e' he'=>hl e' (by simp[he'])) ?_ h;intro hb;split at hb
   ·rename_i hbind
    rw[cf,cf]at hb;simp only[c8]at hb;rcases hb with(hb|hb)|hb
    ·exact hs hb
    ·exact .dir ho (hl e (by simp)) hbind (wu hb)
    ·by_cases hlt:e.on<ms.length
     ·exact .step ho (hl e (by simp)) hbind (hms _ hlt i hb)
     ·rw[List.getD_eq_getElem?_getD,List.getElem?_eq_none (by omega)]at hb
      simp at hb
   ·exact hs hb
 exact key o.after.toList 0 (fun e he=>by simpa using he) (by simp) hi
def Dt{ops:Array Oper}:∀(r:List Oper) (ms:List Nat),(∀j,j<ms.length->∀i,(ms.getD j 0).testBit i=true->mR ops i j)->(∀k o,r[k]?=some o->ops[ms.length+k]?=some o)->
  ∀j i,((mh r ms).getD j 0).testBit i=true->mR ops i j:=by
 intro r;induction r with
 |nil=>
  intro ms hms _ j i h;by_cases hlt:j<ms.length
  ·exact hms j hlt i h
  ·simp only[mh]at h
   rw[List.getD_eq_getElem?_getD,List.getElem?_eq_none (by omega)]at h;simp at h
 |cons o r ih=>
  intro ms hms hr;refine ih _ ?_ ?_
  ·intro j hj i h
   rw[bj,hX]at hj;by_cases hlt:j<ms.length
   ·rw[List.getD_eq_getElem?_getD,List.getElem?_append_left hlt,<-List.getD_eq_getElem?_getD]at h
    exact hms j hlt i h
   ·have e:j=ms.length:=by omega
    subst e;rw[List.getD_eq_getElem?_getD,List.getElem?_append_right (ai _)]at h;simp only[Nat.sub_self,List.getElem?_cons_zero,br]at h;exact Fg hms (by simpa using hr 0 o rfl) i h
  ·intro k o' hk
   have:=hr (k+1) o' (by simpa using hk);rw[bj,hX,show ms.length+1+k=ms.length+(k+1)from by omega];exact this
def fu(ops:List Oper):List Nat:=mh ops []
def G0{ops:Array Oper}{i j:Nat}(h:((fu ops.toList).getD j 0).testBit i=true):mR ops i j:=
 Dt ops.toList [] (fun j hj=>by simp at hj) (fun k o hk=>by simpa using hk) j i h
def dL(w:World)(A:aD)(w':World)(A':aD):Prop:=∀b o v,¬A b o->w.cell? ⟨b,o,none⟩=some v->w'.cell? ⟨b,o,none⟩=some v/\¬A' b o
def dL.refl(w:World)(A:aD):dL w A w A:=fun _ _ _ h h'=>⟨h',h⟩
def dL.trans{w1 w2 w3:World}{A1 A2 A3:aD}(h:dL w1 A1 w2 A2)(h':dL w2 A2 w3 A3):dL w1 A1 w3 A3:=fun b o v h1 h2=>have k:=h b o v h1 h2;h' b o v k.2 k.1
abbrev uZ:=World->aD->World->aD->Prop
section
variable{P:Program}{ops:Array Oper}{Q:Exit->Act->World->Prop}{loud:Nat->Bool}
def wpS(P:Program)(ops:Array Oper)(loud:Nat->Bool)(Q:Exit->Act->World->Prop):Nat->Array Bool->Act->World->aD->Prop
 |0,listed,a,w,_=>av .any ops listed=[]/\Q .normal a w
 |n+1,listed,a,w,A=>(av .any ops listed=[]->Q .normal a w)/\
  ∀i∈av .any ops listed,wpOp P ops Q i (fun a' w'=>(loud i=false->Below w.heap.size w w')/\∃A',dL w A w' A'/\wpS P ops loud Q n (listed.setIfInBounds i true) a' w' A') a w
def xO:∀(n:Nat) (listed:Array Bool) (a:Act) (w:World) (A:aD),wpS P ops loud Q n listed a w A->wpAny P .any ops Q n listed a w
 |0,_,_,_,_,h=>h
 |n+1,_,_,_,_,h=>⟨h.1,fun i hi=>wpOp_mono (fun a' w' h'=>let⟨A',_,h2⟩:=h'.2;xO n _ a' w' A' h2) (h.2 i hi)⟩
def fw(P:Program)(ops:Array Oper)(C:uZ)(o:Oper)(v:Value)(a:Act)(w:World)(A:aD):Prop:=
 (au o (yielded ops a.tmps)=true/\∀w' A',C w A w' A'->(execOp a.eval o).run P w'=.ok (.value v) w')\/
 (au o (yielded ops a.tmps)=false/\v=undef)
def fw.of_same{C:uZ}(ht:∀a A b B c D,C a A b B->C b B c D->C a A c D){o:Oper}{v:Value}{a a':Act}{w w':World}{A A':aD}(hy:fw P ops C o v a w A)(hc:C w A w' A')(he:execOp a'.eval o=execOp a.eval o)
  (hw:au o (yielded ops a'.tmps)=au o (yielded ops a.tmps)):fw P ops C o v a' w' A':=by
 unfold fw at*;rw[he,hw];rcases hy with⟨h1,h2⟩|h
 ·exact .inl ⟨h1,fun w'' A'' hc'=>h2 w'' A'' (ht _ _ _ _ _ _ hc hc')⟩
 ·exact .inr h
def G1{C:uZ}(ht:∀a A b B c D,C a A b B->C b B c D->C a A c D){j:Nat}{oi oj:Oper}{v:Value}(hj:ops[j]?=some oj)(hap:oi.apart ops oj=true)
  (hsi:∀cs b,oi.op≠.select cs b)(hsj:∀cs b,oj.op≠.select cs b)
  (hQ:∀c a w,Q (.panic c) (a.put oi.dst v) w->Q (.panic c) a w){K:Act->World->aD->Prop}{a:Act}{w:World}{A:aD}(hCw:∀w' A',(loud j=false->Below w.heap.size w w')->dL w A w' A'->C w A w' A')
  (hy:fw P ops C oi v a w A)(h:wpOp P ops Q j (fun a' w'=>(loud j=false->Below w.heap.size w w')/\∃A',dL w A w' A'/\K a' w' A') (a.put oi.dst v) w) :
  wpOp P ops Q j (fun a' w'=>(loud j=false->Below w.heap.size w w')/\∃A',dL w A w' A'/\fw P ops C oi v a' w' A'/\K (a'.put oi.dst v) w' A') a w:=by
 obtain⟨h1,h2,h3⟩:=Oper.apart_spec hap;have keep:∀(a:Act) (w':World) (A':aD),fw P ops C oi v a w A->C w A w' A'->∀u,fw P ops C oi v (a.put oj.dst u) w' A':=fun a w' A' hy hc u=>
  hy.of_same ht hc (execOp_put oi hsi a oj.dst u h3) (wanted_put oi a oj.dst u h3)
 have keepD:∀d,fw P ops C oi v {a with defers:=d :: a.defers} w A:=fun d=>by
  unfold fw at*;exact hy
 have fin:∀(u:Value) (w':World),((loud j=false->Below w.heap.size w w')/\∃A',dL w A w' A'/\K ((a.put oi.dst v).put oj.dst u) w' A')->
   (loud j=false->Below w.heap.size w w')/\∃A',dL w A w' A'/\fw P ops C oi v (a.put oj.dst u) w' A'/\K ((a.put oj.dst u).put oi.dst v) w' A':=by
  rintro u w' ⟨k1,A',k2,k3⟩;exact⟨k1,A',k2,keep a w' A' hy (hCw _ _ k1 k2) u,by rw[<-Act.put_comm a v u h2];exact k3⟩
 unfold wpOp at*;simp only[hj]at*;rw[wanted_put oj a oi.dst v h1]at h;split
 ·rename_i hw
  simp only[hw,if_true]at h;rcases h with h|⟨hasks,hlets⟩
  case inr=>exact .inr ⟨by unfold Oper.asks at*;rw[execOp_put oj hsj a oi.dst v h1]at hasks;exact hasks,hlets⟩
  refine .inl ?_;unfold bk at*;rw[execOp_put oj hsj a oi.dst v h1]at h;generalize (execOp a.eval oj).run P w=r at*;cases r with
  |ok n w'=>
   cases n <;> simp only[dc]at h ⊢
   case value u=>exact fin u w' h
   case skip=>exact fin _ w' h
   case defer d=>
    obtain⟨k1,A',k2,k3⟩:=h;refine⟨k1,A',k2,keep _ w' A' (keepD d) (hCw _ _ k1 k2) _,?_⟩;rw[<-Act.put_comm _ v undef h2,<-Act.put_defers];exact k3
   case enter f args=>
    refine bz h fun e w'' he =>?_
    cases e with
    |returned u=>exact fin u w'' he
    |panicked c=>exact hQ _ _ _ he
    |outgrown=>exact he
   case row row args=>exact Rows.mono h fun u w'' he=>fin u w'' he
  |halt x w'=>
   cases x <;> simp only[dc]at h ⊢
   case panic u=>exact hQ _ _ _ h
 ·rename_i hw
  simp only[hw]at h;exact fin _ w h
def fw.wpOp{C:uZ}(hr:∀w A,C w A w A){i:Nat}{o:Oper}{v:Value}{a:Act}{w:World}{A:aD}(hi:ops[i]?=some o)(hy:fw P ops C o v a w A)
  {K:Act->World->aD->Prop}(h:K (a.put o.dst v) w A):wpOp P ops Q i (fun a' w'=>(loud i=false->Below w.heap.size w w')/\∃A',dL w A w' A'/\K a' w' A') a w:=by
 unfold Go.wpOp;simp only[hi];rcases hy with⟨hw,hv⟩|⟨hw,rfl⟩
 ·simp only[hw,if_true,bk,hv w A (hr w A),dc];exact .inl ⟨fun _=>Below.refl _ _,A,dL.refl _ _,h⟩
 ·simp only[hw,a7,if_false];exact⟨fun _=>Below.refl _ _,A,dL.refl _ _,h⟩
def qh{listed:Array Bool}{i:Nat}(hc:pB ops listed)(hr:i∈av .any ops listed):pB ops (listed.setIfInBounds i true):=by
 intro j o ho hj e he hb;by_cases hij:i=j
 ·subst hij
  obtain⟨_,o',ho',hall⟩:=mem_ready.1 hr;rw[ho]at ho';cases ho';exact getD_set_true (hall e he hb)
 ·rw[getD_set_ne false hij]at hj
  exact getD_set_true (hc j o ho hj e he hb)
def G2{C:uZ}(hrefl:∀w A,C w A w A)(ht:∀a A b B c D,C a A b B->C b B c D->C a A c D){i:Nat}{oi:Oper}{v:Value}(hi:ops[i]?=some oi)
  (hsel:∀(j:Nat) (o:Oper) cs b,ops[j]?=some o->o.op≠.select cs b)
  (hQ:∀c a w,Q (.panic c) (a.put oi.dst v) w->Q (.panic c) a w) :
  ∀(fuel:Nat) (listed:Array Bool) (a:Act) (w:World) (A:aD),pB ops listed->
   (∀j oj,ops[j]?=some oj->j≠i->listed.getD j true=false->(∀e∈oj.after,ao .any e=true->e.on≠i)->oi.apart ops oj=true)->
   ((∀w A w' A',dL w A w' A'->C w A w' A')\/((∀w A w' A',Below w.heap.size w w'->C w A w' A')/\∀j,listed.getD j true=false->j≠i->loud j=true->mR ops i j))->
   i∈av .any ops listed->fw P ops C oi v a w A->
   wpS P ops loud Q fuel (listed.setIfInBounds i true) (a.put oi.dst v) w A->wpS P ops loud Q (fuel+1) listed a w A:=by
 intro fuel;induction fuel with
 |zero=>
  intro listed a w A _ _ _ hr hy H;refine⟨fun h=>(by rw[h]at hr;cases hr),fun j hj =>?_⟩;by_cases hji:j=i
  ·subst hji;exact hy.wpOp hrefl hi H
  ·have:=ready_mono hj hji
   rw[H.1]at this;cases this
 |succ fuel ih=>
  intro listed a w A dV hfree hC hr hy H;refine⟨fun h=>(by rw[h]at hr;cases hr),fun j hj =>?_⟩;by_cases hji:j=i
  ·subst hji;exact hy.wpOp hrefl hi H
  ·have h1:=H.2 j (ready_mono hj hji)
   obtain⟨hjun,oj,hoj,hall⟩:=mem_ready.1 hj;have hiun:listed.getD i false≠true:=by
    have h0:=(mem_ready.1 hr).1;rcases a8 i listed.size with h'|h'
    ·simp[h']at h0 ⊢;exact h0
    ·simp[Array.getElem?_eq_none h']
   have hnot:∀e∈oj.after,ao .any e=true->e.on≠i:=fun e he hb heq=>hiun (heq▸hall e he hb)
   have hCw:∀w' A',(loud j=false->Below w.heap.size w w')->dL w A w' A'->C w A w' A':=by
    intro w' A' hb hd;rcases hC with hC|⟨hC1,hC2⟩
    ·exact hC w A w' A' hd
    ·refine hC1 w A w' A' (hb ?_)
     cases hl:loud j
     ·rfl
     ·exact absurd ((hC2 j hjun hji hl).listed dV (fun o ho=>by rw[hoj]at ho;cases ho;exact hall)) hiun
   have h2:=G1 ht hoj (hfree j oj hoj hji hjun hnot) (fun cs b=>hsel i oi cs b hi) (fun cs b=>hsel j oj cs b hoj) hQ hCw hy h1;have hfree':∀k ok,ops[k]?=some ok->k≠i->(listed.setIfInBounds j true).getD k true=false->
     (∀e∈ok.after,ao .any e=true->e.on≠i)->oi.apart ops ok=true:=fun k ok hk hki hun hno=>by
    refine hfree k ok hk hki ?_ hno;by_cases hjk:j=k
    ·subst hjk;exact hjun
    ·rw[getD_set_ne true hjk]at hun;exact hun
   have hC':(∀w A w' A',dL w A w' A'->C w A w' A')\/((∀w A w' A',Below w.heap.size w w'->C w A w' A')/\∀k,(listed.setIfInBounds j true).getD k true=false->k≠i->loud k=true->mR ops i k):=by
    rcases hC with hC|⟨hC1,hC2⟩
    ·exact .inl hC
    ·refine .inr ⟨hC1,fun k hk=>hC2 k ?_⟩
     by_cases hjk:j=k
     ·subst hjk;exact hjun
     ·rw[getD_set_ne true hjk]at hk;exact hk
   refine wpOp_mono (fun a' w' h3 =>?_) h2;obtain⟨k1,A',k2,k3,k4⟩:=h3;refine⟨k1,A',k2,ih (listed.setIfInBounds j true) a' w' A' (qh dV hj) hfree' hC' (ready_mono hr (Ne.symm hji)) k3 ?_⟩;rw[Array.setIfInBounds_comm _ _ hji];exact k4
end
def wv(cx:Cx)(st:St)(dst:Option Tmp)(sv:SV)(K:St->VC):VC:=
 match dst with
 |some d=>match aq d cx.N with
  |true=>K {st with env:=(d,sv) :: st.env}
  |false =>.ff
 |none=>K st
def MT:Bool->Bool->Bool
 |true,b=>b
 |false,true=>false
 |false,false=>true
def j0(st:St)(d:Nat)(b:Bool):St:={st with env:=(d,.s (.one (.lit b))) :: st.env}
def th(opl:List Oper)(st:St)(o:Oper)(exec skip:St->VC):VC:=
 match o.guard with
 |none=>exec st
 |some (j,want)=>match opl[j]? with
  |some oj=>match oj.dst with
   |some d=>match look st.env d with
    |some (.s (.one (.lit b)))=>match MT b want with
     |true=>exec st
     |false=>skip st
    |some (.s (.one (.d .bool g)))=>match want with
     |true =>.ite g (exec (j0 st d true)) (skip (j0 st d false))
     |false =>.ite g (skip (j0 st d true)) (exec (j0 st d false))
    |some (.jy [])=>skip st
    |_ =>.ff
   |none =>.ff
  |none =>.ff
def jG(cx:Cx)(opl:List Oper)(st:St)(o:Oper)(K:St->VC):VC:=
 th opl st o (fun st=>rQ cx st o fun sv st'=>wv cx st' o.dst sv K) (fun st=>wv cx st o.dst (.jy []) K)
def AB(cx:Cx)(opl:List Oper):List Oper->St->(St->VC)->VC
 |[],st,K=>K st
 |o :: r,st,K=>jG cx opl st o fun st'=>AB cx opl r st' K
def gw(cx:Cx)(opl:List Oper)(j:Nat):Bool:=
 match opl[j]? with
 |some o=>ab (kindOf cx o) 3
 |none=>false
def pC(cx:Cx)(opl:List Oper)(ms:List Nat)(listed:Array Bool)(i:Nat):Bool:=
 match opl[i]? with
 |some o=>match kindOf cx o with
  |0=>true
  |1=>(b3 opl.length).all fun j=>ab j i || listed.getD j true || !(gw cx opl j) || (ms.getD j 0).testBit i
  |_=>false
 |none=>false
def qi(cx:Cx)(ops:Array Oper)(st:St)(i:Nat):Bool:=
 match ops[i]? with
 |some o=>match o.op,o.guard with
  |.load _ x,none=>match di st.env x with
   |.la _ _=>true
   |_=>false
  |_,_=>false
 |none=>false
def AD:List Nat->(Nat->VC)->VC
 |[],_ =>.leaf True
 |[i],f=>f i
 |i :: j :: r,f =>.both (f i) (AD (j :: r) f)
def ju(cx:Cx)(ops:Array Oper)(ms:List Nat):Nat->Array Bool->St->(St->VC)->VC
 |0,listed,st,K=>match av .any ops listed with
  |[]=>K st
  |_ =>.ff
 |n+1,listed,st,K=>match av .any ops listed with
  |[]=>K st
  |r :: rs=>match(r :: rs).find? (fun i=>pC cx ops.toList ms listed i || qi cx ops st i)with
   |some i=>match ops[i]? with
    |some o=>jG cx ops.toList st o fun st'=>ju cx ops ms n (listed.setIfInBounds i true) st' K
    |none =>.ff
   |none=>AD (r :: rs) fun i=>match ops[i]? with
    |some o=>jG cx ops.toList st o fun st'=>ju cx ops ms n (listed.setIfInBounds i true) st' K
    |none =>.ff
def u4(o:Oper):Nat:=o.after.toList.foldl (fun s e=>match ao .any e with
 |true=>s ||| (1<<< e.on)
 |false=>s) 0
def G3(am m i:Nat):Bool:=!(m.testBit i)&&ab (am&&&m) am
def kC:List Nat->Nat->Nat->List Nat
 |[],_,_=>[]
 |am :: r,m,i=>match G3 am m i with
  |true=>i :: kC r m (i+1)
  |false=>kC r m (i+1)
def qj(m i:Nat):List Bool->List Nat->Nat->Bool
 |l :: ls,a :: ms,j=>match l&&(!(ab j i)&&(!(m.testBit j)&&!(a.testBit i)))with
  |true=>false
  |false=>qj m i ls ms (j+1)
 |_,_,_=>true
def tj(ks:List Nat)(ls:List Bool)(ms:List Nat)(m i:Nat):Bool:=
 match ks.getD i 2 with
 |0=>true
 |1=>qj m i ls ms 0
 |_=>false
def anyM(cx:Cx)(ops:Array Oper)(am ks:List Nat)(ls:List Bool)(ms:List Nat):Nat->Nat->St->(St->VC)->VC
 |0,m,st,K=>match kC am m 0 with
  |[]=>K st
  |_ =>.ff
 |n+1,m,st,K=>match kC am m 0 with
  |[]=>K st
  |r :: rs=>match(r :: rs).find? (fun i=>tj ks ls ms m i || qi cx ops st i)with
   |some i=>match ops[i]? with
    |some o=>jG cx ops.toList st o fun st'=>anyM cx ops am ks ls ms n (m ||| (1<<< i)) st' K
    |none =>.ff
   |none=>AD (r :: rs) fun i=>match ops[i]? with
    |some o=>jG cx ops.toList st o fun st'=>anyM cx ops am ks ls ms n (m ||| (1<<< i)) st' K
    |none =>.ff
def L4(cx:Cx)(ops:Array Oper)(st:St)(K:St->VC):VC:=
 anyM cx ops (ops.toList.map u4) (ops.toList.map (kindOf cx)) (ops.toList.map fun o=>ab (kindOf cx o) 3) (fu ops.toList) ops.size 0 st K
def xP(oj:Oper)(i:Nat):Bool:=oj.after.any fun e=>ao .any e&&ab e.on i
def qk(ops:Array Oper):Bool:=
 hY ops&&(b3 ops.size).all fun i=>(b3 ops.size).all fun j=>match ops[i]?,ops[j]? with
  |some oi,some oj=>ab j i || xP oj i || xP oi j || oi.apart ops oj
  |_,_=>true
section
variable{X:Ext}{P:Program}{cx:Cx}{Q:Exit->Act->World->Prop}
structure dR (cx:Cx) (S:aY) (st:St) (a:Act):Prop where
 size:a.tmps.size=cx.N
 defers:a.defers=[]
 env:en cx.eT S st.env a
def allM:Nat:=4000000
def j9(W:List Nat)(st st':St):Prop:=allM∉W->∀t,t∉W->∀v,look st'.env t=some v->look st.env t=some v
def dZ(cx:Cx)(X:Ext)(O:aD)(K:St->VC)(W:List Nat)(st:St)(S:aY):Act->World->Prop:=
 fun a' w'=>∃st' loc',(K st').holds/\Good cx.eT X (aB O st' loc' w')/\Tr S (aB O st' loc' w')/\dR cx (aB O st' loc' w') st' a'/\j9 W st st'
def en.tr{S S':aY}{env:List (Nat×SV)}{a:Act}(h:en cx.eT S env a)(t:Tr S S'):en cx.eT S' env a:=fun i sv hi=>(h i sv hi).tr t
def dR.put{S S':aY}{st st':St}{a:Act}{d:Nat}{v:Value}{sv:SV}(h:dR cx S st a)(t:Tr S S')(he:st'.env=(d,sv) :: st.env)(hd:d<cx.N)(hv:cR cx.eT S' sv v):dR cx S' st' (a.put (some d) v):=by
 refine⟨by simp[Act.put,h.size],h.defers,fun i sv' hi =>?_⟩;rw[he,bM]at hi;simp only[Act.put];by_cases e:d=i
 ·rw[if_pos e]at hi
  cases hi;subst e;rw[bc,Array.getElem?_setIfInBounds,if_pos rfl,if_pos (by rw[h.size];exact hd)];exact hv
 ·rw[if_neg e]at hi
  rw[bc,Array.getElem?_setIfInBounds,if_neg e,<-bc];exact(h.env i sv' hi).tr t
def kD{O:aD}{st st0:St}{S:aY}{loc:Nat->Loc}{w:World}{a:Act}{dst:Option Tmp}{sv:SV}{v:Value}{K:St->VC}{W:List Nat}(h:(wv cx st dst sv K).holds)
  (hA:dR cx S st0 a)(ht:Tr S (aB O st loc w))(he:st.env=st0.env)(hv:cR cx.eT (aB O st loc w) sv v)(g:Good cx.eT X (aB O st loc w))(hW:∀d,dst=some d->d∈W) :
  dZ cx X O K W st0 S (a.put dst v) w:=by
 unfold wv at h;split at h
 ·rename_i d
  split at h
  ·rename_i hd
   refine⟨{st with env:=(d,sv) :: st.env},loc,h,g,ht,?_,fun _ t htW v hv =>?_⟩
   ·have:=hA.put (st':={st with env:=(d,sv) :: st.env}) ht (by rw[<-he]) (jb hd) hv
    exact⟨this.size,this.defers,this.env⟩
   ·have hv:look ((d,sv) :: st.env) t=some v:=hv
    rw[bM,if_neg (fun(e:d=t)=>htW (e▸hW d rfl)),he]at hv;exact hv
  ·exact h.elim
 ·refine⟨st,loc,h,g,ht,⟨hA.size,hA.defers,by rw[he];exact hA.env.tr ht⟩,fun _ t _ v hv=>by rw[he]at hv;exact hv⟩
def K0(a b:Bool):MT a b=(a == b):=by cases a <;> cases b <;> rfl
def G4{O:aD}{st:St}{loc:Nat->Loc}{w:World}{a:Act}{d:Nat}{b:Bool}(hA:dR cx (aB O st loc w) st a)(hv:a.tmps.getD d undef=.bool b) :
  dR cx (aB O (j0 st d b) loc w) (j0 st d b) a:=by
 refine⟨hA.size,hA.defers,fun i sv hi =>?_⟩;simp only[j0,bM]at hi;by_cases e:d=i
 ·rw[if_pos e]at hi
  cases hi;subst e;rw[hv];rfl
 ·rw[if_neg e]at hi
  exact hA.env i sv hi
def Br{ops:Array Oper}{a:Act}{j d:Nat}{oj:Oper}{b:Bool}(hj:ops[j]?=some oj)(hd:oj.dst=some d)(hlt:d<a.tmps.size)(hv:a.tmps.getD d undef=.bool b):yielded ops a.tmps j=some b:=by
 have:a.tmps[d]?=some (.bool b):=by
  rw[Array.getElem?_eq_getElem hlt];rw[bc,Array.getElem?_eq_getElem hlt]at hv;simpa using hv
 simp[yielded,hj,hd,this]
def rf{O:aD}{st:St}{loc:Nat->Loc}{w:World}{a:Act}{ops:Array Oper}{o:Oper}{exec skip:St->VC}{W:List Nat}(hA:dR cx (aB O st loc w) st a)(g:Good cx.eT X (aB O st loc w))
  (hW:∀(j:Nat) (oj:Oper) (d:Nat),ops[j]?=some oj->oj.dst=some d->d∈W)
  (h:(th ops.toList st o exec skip).holds) :
  ∃st',dR cx (aB O st' loc w) st' a/\Good cx.eT X (aB O st' loc w)/\aB O st' loc w=aB O st loc w/\j9 W st st'/\
   ((au o (yielded ops a.tmps)=true/\(exec st').holds)\/(au o (yielded ops a.tmps)=false/\(skip st').holds)):=by
 unfold th at h;split at h
 ·rename_i hg
  exact⟨st,hA,g,rfl,fun _ _ _ _ h=>h,.inl ⟨by simp[au,hg],h⟩⟩
 ·rename_i j want hg
  split at h
  ·rename_i oj hj
   have hj':ops[j]?=some oj:=by rw[<-Array.getElem?_toList];exact hj
   split at h
   ·rename_i d hd
    have key:∀b,a.tmps.getD d undef=.bool b->au o (yielded ops a.tmps)=(b == want):=by
     intro b hb;have hlt:d<a.tmps.size:=by
      rcases a8 d a.tmps.size with h'|h'
      ·exact h'
      ·rw[bc,Array.getElem?_eq_none h']at hb;cases hb
     simp[au,hg,Br hj' hd hlt hb]
    have lit:∀b,a.tmps.getD d undef=.bool b->dR cx (aB O (j0 st d b) loc w) (j0 st d b) a/\Good cx.eT X (aB O (j0 st d b) loc w)/\aB O (j0 st d b) loc w=aB O st loc w/\j9 W st (j0 st d b):=
     fun b hb=>⟨G4 hA hb,g,rfl,fun _ t ht v hv=>by simp only[j0,bM]at hv;rwa [if_neg (fun(e:d=t)=>ht (e▸hW j oj d hj' hd))]at hv⟩
    split at h
    ·rename_i b hl
     have hv:a.tmps.getD d undef=.bool b:=hA.env d _ hl;have hk:=key b hv;rw[<-K0]at hk;split at h
     ·rename_i he;exact⟨st,hA,g,rfl,fun _ _ _ _ h=>h,.inl ⟨by rw[hk,he],h⟩⟩
     ·rename_i he;exact⟨st,hA,g,rfl,fun _ _ _ _ h=>h,.inr ⟨by rw[hk,he],h⟩⟩
    ·rename_i b hl
     have hv:a.tmps.getD d undef=.bool b:=(dv (eT:=cx.eT) (S:=aB O st loc w) (b:=b)).1 (hA.env d _ hl);have hk:=key b hv;obtain⟨l1,l2,l3,l4⟩:=lit b hv;split at h
     ·cases b
      ·exact⟨_,l1,l2,l3,l4,.inr ⟨by rw[hk];rfl,h.2 rfl⟩⟩
      ·exact⟨_,l1,l2,l3,l4,.inl ⟨by rw[hk];rfl,h.1 rfl⟩⟩
     ·cases b
      ·exact⟨_,l1,l2,l3,l4,.inl ⟨by rw[hk];rfl,h.2 rfl⟩⟩
      ·exact⟨_,l1,l2,l3,l4,.inr ⟨by rw[hk];rfl,h.1 rfl⟩⟩
    ·rename_i hl
     obtain⟨vs,hv,hvs⟩:=hA.env d _ hl;cases hvs;have hy:yielded ops a.tmps j=none:=by
      rw[bc]at hv;simp only[yielded,hj',hd,Option.bind_some];cases ht:a.tmps[d]? with
      |none=>rfl
      |some x=>rw[ht]at hv;simp only[br]at hv;subst hv;rfl
     exact⟨st,hA,g,rfl,fun _ _ _ _ h=>h,.inr ⟨by simp[au,hg,hy],h⟩⟩
    ·exact h.elim
   ·exact h.elim
  ·exact h.elim
def j9.trans{W:List Nat}{a b c:St}(h:j9 W a b)(h':j9 W b c):j9 W a c:=fun hm t ht v hv=>h hm t ht v (h' hm t ht v hv)
def dZ.mono{O:aD}{K:St->VC}{W:List Nat}{st st1:St}{S S1:aY}{a:Act}{w:World}(h:dZ cx X O K W st1 S1 a w)(ht:Tr S S1)(ha:j9 W st st1):dZ cx X O K W st S a w:=by
 obtain⟨st',loc',k1,k2,k3,k4,k5⟩:=h;exact⟨st',loc',k1,k2,ht.trans k3,k4,ha.trans k5⟩
def rT(hok:ik P cx X){O:aD}{st:St}{loc:Nat->Loc}{w:World}{a:Act}{ops:Array Oper}{o:Oper}{K:St->VC}{W:List Nat}(hA:dR cx (aB O st loc w) st a)(g:Good cx.eT X (aB O st loc w))(hO:dA O w)
  (hW:∀(j:Nat) (oj:Oper) (d:Nat),ops[j]?=some oj->oj.dst=some d->d∈W)(hWo:∀d,o.dst=some d->d∈W)(h:(jG cx ops.toList st o K).holds) :
  if au o (yielded ops a.tmps)then o.wp P a w (fun a' w'=>(ab (kindOf cx o) 3=false->Below w.heap.size w w')/\dZ cx X O K W st (aB O st loc w) a' w') Q
  else dZ cx X O K W st (aB O st loc w) (a.put o.dst undef) w:=by
 obtain⟨st',hA',g',hs,hag,hcase⟩:=rf hA g hW h;rcases hcase with⟨hw,h'⟩|⟨hw,h'⟩
 ·rw[if_pos hw]
  refine dd ?_ (Jl hok g' hO hA'.env h');rintro a' w' ⟨v,sv,st2,loc2,rfl,k1,k2,k3,k4,k5,k6⟩;refine⟨fun hl=>k3 hl,?_⟩;exact(kD k1 hA' k5 k2 k6 k4 hWo).mono (by rw[hs];exact Tr.refl _) hag
 ·rw[if_neg (by simp[hw])]
  exact(kD (loc:=loc) (w:=w) h' hA' (Tr.refl _) rfl (show cR cx.eT _ (.jy []) undef from⟨[],rfl,.nil⟩) g' hWo).mono (by rw[hs];exact Tr.refl _) hag
def tW(hok:ik P cx X){O:aD}{ops:Array Oper}{W:List Nat}(hW:∀(j:Nat) (oj:Oper) (d:Nat),ops[j]?=some oj->oj.dst=some d->d∈W){K:St->VC}:∀(l:List Oper) {st:St} {loc:Nat->Loc} {w:World} {a:Act},(∀o∈l,∀d,o.dst=some d->d∈W)->
  dR cx (aB O st loc w) st a->Good cx.eT X (aB O st loc w)->dA O w->(AB cx ops.toList l st K).holds->(∀st' loc' a' w',(K st').holds->Good cx.eT X (aB O st' loc' w')->Tr (aB O st loc w) (aB O st' loc' w')->dR cx (aB O st' loc' w') st' a'->j9 W st st'->Q .normal a' w')->
  wpList P ops Q l a w:=by
 intro l;induction l with
 |nil=>intro st loc w a _ hA g _ h hq;exact hq st loc a w h g (Tr.refl _) hA fun _ _ _ _ h=>h
 |cons o l ih=>
  intro st loc w a hWl hA g hO h hq;have hs:=rT (Q:=Q) (P:=P) hok hA g hO hW (hWl o (by simp)) h;have next:∀a' w',dZ cx X O (fun st'=>AB cx ops.toList l st' K) W st (aB O st loc w) a' w'->wpList P ops Q l a' w':=by
   rintro a' w' ⟨st',loc',k1,k2,k3,k4,k5⟩;exact ih (fun o' ho'=>hWl o' (by simp[ho'])) k4 k2 (hO.tr k3.size) k1 fun st2 loc2 a2 w2 m1 m2 m3 m4 m5=>hq st2 loc2 a2 w2 m1 m2 (k3.trans m3) m4 (k5.trans m5)
  unfold wpList;split
  ·rename_i hw
   rw[if_pos hw]at hs;exact .inl (dd (fun a' w' h'=>next a' w' h'.2) hs)
  ·rename_i hw
   rw[if_neg hw]at hs;exact next _ _ hs
def G5(hok:ik P cx X){O:aD}{st:St}{loc:Nat->Loc}{w:World}{a:Act}(g:Good cx.eT X (aB O st loc w))(hO:dA O w)(he:en cx.eT (aB O st loc w) st.env a)
  {o:Oper}{K:SV->St->VC}(hk:kindOf cx o=0\/kindOf cx o=1)(h:(rQ cx st o K).holds) :
  ∃v sv st' loc',(K sv st').holds/\st'.env=st.env/\Good cx.eT X (aB O st' loc' w)/\Tr (aB O st loc w) (aB O st' loc' w)/\cR cx.eT (aB O st' loc' w) sv v/\
   ∀w',(kindOf cx o=0\/Below w.heap.size w w')->(execOp a.eval o).run P w'=.ok (.value v) w':=by
 have same:∀{sv:SV} {v:Value},(K sv st).holds->cR cx.eT (aB O st loc w) sv v->(∀w',(kindOf cx o=0\/Below w.heap.size w w')->(execOp a.eval o).run P w'=.ok (.value v) w')->
   ∃v sv st' loc',(K sv st').holds/\st'.env=st.env/\Good cx.eT X (aB O st' loc' w)/\Tr (aB O st loc w) (aB O st' loc' w)/\cR cx.eT (aB O st' loc' w) sv v/\
   ∀w',(kindOf cx o=0\/Below w.heap.size w w')->(execOp a.eval o).run P w'=.ok (.value v) w':=
  fun h1 h2 h3=>⟨_,_,st,loc,h1,rfl,g,Tr.refl _,h2,h3⟩
 have pure:(vW cx st o.op fun sv=>K sv st).holds->∃v sv st' loc',(K sv st').holds/\st'.env=st.env/\Good cx.eT X (aB O st' loc' w)/\Tr (aB O st loc w) (aB O st' loc' w)/\cR cx.eT (aB O st' loc' w) sv v/\
   ∀w',(kindOf cx o=0\/Below w.heap.size w w')->(execOp a.eval o).run P w'=.ok (.value v) w':=by
  intro h;obtain⟨sv,v,h1,h2,h3⟩:=ry (P:=P) hok.toTyOK g he h;exact same h1 h2 fun w' _=>h3 w'
 have mov:∀x ty,(∀w',(execOp a.eval o).run P w'=.ok (.value (a.eval x)) w')->(ta cx st x ty K).holds->∃v sv st' loc',(K sv st').holds/\st'.env=st.env/\Good cx.eT X (aB O st' loc' w)/\Tr (aB O st loc w) (aB O st' loc' w)/\cR cx.eT (aB O st' loc' w) sv v/\
   ∀w',(kindOf cx o=0\/Below w.heap.size w w')->(execOp a.eval o).run P w'=.ok (.value v) w':=by
  intro x ty hrun h;obtain⟨sv,st',loc',h1,h2,h3,h4,h5⟩:=tS g hO he h;exact⟨_,sv,st',loc',h1,h2,h3,h4,h5,fun w' _=>hrun w'⟩
 have read:(lI cx st o.op fun sv=>K sv st).holds->∃v sv st' loc',(K sv st').holds/\st'.env=st.env/\Good cx.eT X (aB O st' loc' w)/\Tr (aB O st loc w) (aB O st' loc' w)/\cR cx.eT (aB O st' loc' w) sv v/\
   ∀w',(kindOf cx o=0\/Below w.heap.size w w')->(execOp a.eval o).run P w'=.ok (.value v) w':=by
  intro h;unfold lI at h;simp only at h;split at h
  ·rename_i t x i hop
   split at h
   ·rename_i n hn
    obtain⟨k,hk',_⟩:=jY hn (bD he i);obtain⟨c,u,h1,h2,h3⟩:=yw (P:=P) hok.toTyOK g (k:=k) (bD he x) h;exact same h1 h2 fun w' _=>by simp[execOp,hop,hk',h3]
   ·exact h.elim
  ·rename_i t x f hop
   obtain⟨c,u,h1,h2,h3⟩:=tQ (P:=P) hok.toTyOK (bD he x) h;exact same h1 h2 fun w' _=>by simp[execOp,hop,h3]
  ·rename_i t x hop
   obtain⟨c,u,h1,h2,h3⟩:=p8 (P:=P) hok.toTyOK g (bD he x) h;refine same h1 h2 fun w' hb =>?_
   have hb:Below w.heap.size w w':=by
    rcases hb with hb|hb
    ·simp[kindOf,hop]at hb
    ·exact hb
   simp[execOp,hop,h3 w' hb]
  ·rename_i t x lo hi hop
   obtain⟨c,u,h1,h2,h3⟩:=tR (P:=P) hok.toTyOK g he (bD he x) h;exact same h1 h2 fun w' _=>by simp[execOp,hop,h3]
  ·exact pure h
 unfold rQ at h;split at h
 ·rename_i hm;rw[qg hm]at hk;omega
 unfold wq at h;split at h
 ·rename_i s t x hop
  unfold uY at h;split at h
  ·rename_i hs ht;simp[kindOf,hop,ht]at hk
  ·rename_i hs ht;simp[kindOf,hop,ht]at hk
  ·exact read h
  ·exact h.elim
 ·rename_i x hop
  exact mov x _ (fun w'=>by simp[execOp,hop]) h
 ·rename_i x hop
  unfold Ff at h;split at h
  ·obtain⟨sv,st',loc',h1,h2,h3,h4,h5⟩:=rP g hO he h
   exact⟨_,sv,st',loc',h1,h2,h3,h4,h5,fun w' _=>by simp[execOp,hop]⟩
  ·split at h
   ·rename_i hd
    exact same h (yF hd (ig he x)) fun w' _=>by simp[execOp,hop]
   ·exact mov x _ (fun w'=>by simp[execOp,hop]) h
 ·rename_i t hop;simp[kindOf,hop]at hk
 ·rename_i t x hop;simp[kindOf,hop]at hk
 ·rename_i t ps hop
  obtain⟨sv,v,h1,h2,h3⟩:=re hok.toTyOK g he h;exact same h1 h2 fun w' _=>by have:=h3 w';simp only[execOp,hop,af,ak];rw[this];rfl
 ·rename_i t n ps hop;simp[kindOf,hop]at hk
 ·rename_i t l c hop;simp[kindOf,hop]at hk
 ·rename_i t x v hop;simp[kindOf,hop]at hk
 ·rename_i fn first caps hop
  split at h
  ·rename_i f ns hfi hcn
   obtain⟨k1,k2⟩:=rS he hcn;have hfi':first= #[]:=aj.1 hfi
   have hca:caps.map a.eval=(ns.map fun n=>(loc n).v).toArray:=by
    apply aj.1;rw[hJ,k1]
   refine same (v:=.func (.func f) #[] (ns.map fun n=>(loc n).v).toArray) h ⟨rfl,k2⟩ fun w' _ =>?_
   simp[execOp,hop,hL,hfi',hca]
  ·exact h.elim
 ·rename_i c hop
  unfold uX at h;split at h
  ·rename_i f hcal
   exfalso;have:kindOf cx o=2\/kindOf cx o=3:=by
    unfold kindOf;simp only[hop,hcal];split
    ·rename_i heq;cases heq
    ·rename_i heq;cases heq
    ·rename_i heq;cases heq
    ·split
     ·exact .inl rfl
     ·exact .inr rfl
    ·split
     ·exact .inl rfl
     ·exact .inr rfl
    ·exact .inr rfl
   omega
  ·rename_i hcal;simp[kindOf,hop,hcal]at hk
  ·rename_i hcal;simp[kindOf,hop,hcal]at hk
  ·rename_i hcal
   split at h
   ·rename_i x y harg
    have h1:c.args= #[x,y]:=aj.1 harg;obtain⟨c',v,k1,k2,k3⟩:=qf (P:=P) (bD he x) (bD he y) h;refine same (v:=v) k1 k2 fun w' _ =>?_
    have k3:=k3 w';simp only[if_true]at k3;simp[execOp,hop,resolve,hcal,h1,invoke,builtin,hM,k3]
   ·exact h.elim
  ·rename_i hcal
   split at h
   ·rename_i x y harg
    have h1:c.args= #[x,y]:=aj.1 harg;obtain⟨c',v,k1,k2,k3⟩:=qf (P:=P) (bD he x) (bD he y) h;refine same (v:=v) k1 k2 fun w' _ =>?_
    have k3:=k3 w';simp only[a7,if_false]at k3;simp[execOp,hop,resolve,hcal,h1,invoke,builtin,hP,k3]
   ·exact h.elim
  ·exact read h
 ·exact read h
def Fh{ops:Array Oper}{st:St}{i:Nat}{o:Oper}(ho:ops[i]?=some o)(h:qi cx ops st i=true):∃t x u y,o.op=.load t x/\o.guard=none/\di st.env x=.la u y:=by
 unfold qi at h;rw[ho]at h;simp only at h;split at h
 ·rename_i t x hop hg
  split at h
  ·rename_i u y hev;exact⟨t,x,u,y,hop,hg,hev⟩
  ·cases h
 ·cases h
def G6{ops:Array Oper}{loud:Nat->Bool}{n:Nat}{listed:Array Bool}{a:Act}{w:World}{A A':aD}(h:dL w A w A')(hw:wpS P ops loud Q n listed a w A'):wpS P ops loud Q n listed a w A:=by
 cases n with
 |zero=>exact hw
 |succ n=>exact⟨hw.1,fun i hi=>wpOp_mono (fun a' w' h'=>⟨h'.1,let⟨A2,k1,k2⟩:=h'.2;⟨A2,h.trans k1,k2⟩⟩) (hw.2 i hi)⟩
def K2(hok:ik P cx X){O:aD}{st:St}{loc:Nat->Loc}{w:World}{a:Act}(g:Good cx.eT X (aB O st loc w))(hO:dA O w)(he:en cx.eT (aB O st loc w) st.env a)
  {o:Oper}{K:SV->St->VC}{t:TypeId}{x:Operand}{u:Ty}{y:D u}(hop:o.op=.load t x)(hev:di st.env x=.la u y)(h:(rQ cx st o K).holds) :
  ∃v sv,(K sv st).holds/\cR cx.eT (aB O st loc w) sv v/\∀w' A',dL w (aB O st loc w).A w' A'->(execOp a.eval o).run P w'=.ok (.value v) w':=by
 have hx:=bD he x;rw[hev]at hx;unfold rQ at h;split at h
 ·rename_i hm;have:=qg hm;simp[kindOf,hop]at this
 unfold wq at h;rw[hop]at h;simp only at h;unfold lI at h;simp only at h;rw[hev]at h;unfold rB at h;split at h
 ·rename_i ty ht
  obtain⟨m,i,d,hf,hs⟩:=dK hok.toTyOK ht;simp only at h;split at h
  ·rename_i hb
   obtain⟨b,o',us,hvx,hr,hrow⟩:=hx;have hr:=jz hb y hr;obtain⟨v,h1,h2⟩:=eI hf hs hr.length w (fun j v hj=>(hrow j v hj).1);refine⟨v,_,h,kB hr h2,fun w' A' hd =>?_⟩;obtain⟨v',h3,h4⟩:=eI (P:=P) hf hs hr.length w' (fun j v hj=>(hd _ _ _ (hrow j v hj).2 (hrow j v hj).1).1);have e:v'=v:=by
    split at h2
    ·rename_i ho;rw[if_pos ho]at h4;rw[h2]at h4;exact(List.cons.inj h4).1.symm
    ·rename_i ho;rw[if_neg ho]at h4;rw[h2,h4]
   have:=h3 w' (Below.refl _ _);rw[e]at this;simp[execOp,hop,hvx,this]
  ·exact h.elim
 ·exact h.elim
def Ao{ops:Array Oper}(h:qk ops=true):hY ops=true/\∀(i j:Nat) (oi oj:Oper),ops[i]?=some oi->ops[j]?=some oj->j≠i->xP oj i=false->xP oi j=false->oi.apart ops oj=true:=by
 simp only[qk,ae,cg,ix]at h;refine⟨h.1,fun i j oi oj hi hj hne h1 h2 =>?_⟩;have:=h.2 i (Array.getElem?_eq_some_iff.1 hi).1 j (Array.getElem?_eq_some_iff.1 hj).1;rw[hi,hj]at this;simp only[c8,h1,h2,a7,or_false]at this;rcases this with this|this
 ·exact absurd (ah this) hne
 ·exact this
def wx{oj:Oper}{i:Nat}(h:∀e∈oj.after,ao .any e=true->e.on≠i):xP oj i=false:=by
 cases hd:xP oj i
 ·rfl
 ·obtain⟨e,he,hb⟩:=Array.any_eq_true'.1 hd
  simp only[ae]at hb;exact absurd (ah hb.2) (h e he hb.1)
def G7{l:List Nat}{f:Nat->VC}(h:(AD l f).holds):∀i∈l,(f i).holds:=by
 induction l with
 |nil=>simp
 |cons i l ih=>
  cases l with
  |nil=>intro j hj;simp at hj;subst hj;exact h
  |cons j r=>
   intro k hk;rcases ag.1 hk with rfl|hk
   ·exact h.1
   ·exact ih h.2 k hk
def tX(hok:ik P cx X){O:aD}{ops:Array Oper}{W:List Nat}(hW:∀(j:Nat) (oj:Oper) (d:Nat),ops[j]?=some oj->oj.dst=some d->d∈W)(hreg:qk ops=true){K:St->VC}
  (hQp:∀c a w,¬Q (.panic c) a w):∀(n:Nat) (listed:Array Bool) {st:St} {loc:Nat->Loc} {w:World} {a:Act},pB ops listed->
  dR cx (aB O st loc w) st a->Good cx.eT X (aB O st loc w)->dA O w->(ju cx ops (fu ops.toList) n listed st K).holds->
  (∀st' loc' a' w',(K st').holds->Good cx.eT X (aB O st' loc' w')->Tr (aB O st loc w) (aB O st' loc' w')->dR cx (aB O st' loc' w') st' a'->j9 W st st'->Q .normal a' w')->
  wpS P ops (gw cx ops.toList) Q n listed a w (aB O st loc w).A:=by
 intro n;induction n with
 |zero=>
  intro listed st loc w a _ hA g _ h hq;simp only[ju]at h;split at h
  ·rename_i hr;exact⟨hr,hq st loc a w h g (Tr.refl _) hA fun _ _ _ _ h=>h⟩
  ·exact h.elim
 |succ n ih=>
  intro listed st loc w a dV hA g hO h hq;simp only[ju]at h;split at h
  ·rename_i hr
   exact⟨fun _=>hq st loc a w h g (Tr.refl _) hA fun _ _ _ _ h=>h,by rw[hr];simp⟩
  ·rename_i r rs hr
   have one:∀i∈av .any ops listed,(match ops[i]? with|some o=>jG cx ops.toList st o fun st'=>ju cx ops (fu ops.toList) n (listed.setIfInBounds i true) st' K|none=>VC.ff).holds->
     wpOp P ops Q i (fun a' w'=>(gw cx ops.toList i=false->Below w.heap.size w w')/\∃A',dL w (aB O st loc w).A w' A'/\wpS P ops (gw cx ops.toList) Q n (listed.setIfInBounds i true) a' w' A') a w:=by
    intro i hi h;split at h
    ·rename_i o ho
     have hs:=rT (Q:=Q) (P:=P) hok hA g hO hW (fun d hd=>hW i o d ho hd) h;have hl:gw cx ops.toList i=ab (kindOf cx o) 3:=by
      unfold gw;rw[Array.getElem?_toList,ho]
     have next:∀a' w',dZ cx X O (fun st'=>ju cx ops (fu ops.toList) n (listed.setIfInBounds i true) st' K) W st (aB O st loc w) a' w'->∃A',dL w (aB O st loc w).A w' A'/\wpS P ops (gw cx ops.toList) Q n (listed.setIfInBounds i true) a' w' A':=by
      rintro a' w' ⟨st',loc',k1,k2,k3,k4,k5⟩;exact⟨_,k3.cell,ih _ (qh dV hi) k4 k2 (hO.tr k3.size) k1 fun st2 loc2 a2 w2 m1 m2 m3 m4 m5=>hq st2 loc2 a2 w2 m1 m2 (k3.trans m3) m4 (k5.trans m5)⟩
     unfold wpOp;simp only[ho];split
     ·rename_i hw
      rw[if_pos hw]at hs;exact .inl (dd (fun a' w' h'=>⟨fun e=>h'.1 (by rw[<-hl];exact e),next a' w' h'.2⟩) hs)
     ·rename_i hw
      rw[if_neg hw]at hs;exact⟨fun _=>Below.refl _ _,next _ _ hs⟩
    ·exact h.elim
   split at h
   ·rename_i i hf
    have hmem:i∈av .any ops listed:=by rw[hr];exact List.mem_of_find?_eq_some hf
    have hst:=List.find?_some hf;split at h
    ·rename_i o ho
     have hol:ops.toList[i]?=some o:=by rw[Array.getElem?_toList];exact ho
     obtain⟨hsel,hap⟩:=Ao hreg;have hfree:∀j oj,ops[j]?=some oj->j≠i->listed.getD j true=false->(∀e∈oj.after,ao .any e=true->e.on≠i)->o.apart ops oj=true:=by
      intro j oj hj hji hun hno;refine hap i j o oj ho hj hji (wx hno) (wx fun e he hb heq =>?_);obtain⟨_,o',ho',hall⟩:=mem_ready.1 hmem;rw[ho]at ho';cases ho';have:=hall e he hb;rw[heq]at this;rcases a8 j listed.size with h'|h'
      ·simp[h']at hun this;rw[hun]at this;cases this
      ·simp[Array.getElem?_eq_none h']at this
     have fin:∀{C:uZ} (hCr:∀w A,C w A w A) (hCt:∀a A b B c D,C a A b B->C b B c D->C a A c D)
       (hCC:(∀w A w' A',dL w A w' A'->C w A w' A')\/((∀w A w' A',Below w.heap.size w w'->C w A w' A')/\∀j,listed.getD j true=false->j≠i->gw cx ops.toList j=true->mR ops i j))
       {v:Value},fw P ops C o v a w (aB O st loc w).A->dZ cx X O (fun st'=>ju cx ops (fu ops.toList) n (listed.setIfInBounds i true) st' K) W st (aB O st loc w) (a.put o.dst v) w->wpS P ops (gw cx ops.toList) Q (n+1) listed a w (aB O st loc w).A:=by
      intro C hCr hCt hCC v hy ⟨st',loc',k1,k2,k3,k4,k5⟩;refine G2 hCr hCt ho (fun j o' cs b hj=>Region.noSelect_spec hsel j o' cs b hj) (fun c a w h=>(hQp _ _ _ h).elim) n listed a w _ dV hfree hCC hmem hy ?_;exact G6 k3.cell (ih _ (qh dV hmem) k4 k2 (hO.tr k3.size) k1 fun st2 loc2 a2 w2 m1 m2 m3 m4 m5=>hq st2 loc2 a2 w2 m1 m2 (k3.trans m3) m4 (k5.trans m5))
     cases hd:qi cx ops st i with
     |true=>
      obtain⟨t,x,u,y,hop,hg,hev⟩:=Fh ho hd;have h':(rQ cx st o fun sv st'=>wv cx st' o.dst sv fun st'=>ju cx ops (fu ops.toList) n (listed.setIfInBounds i true) st' K).holds:=by
       unfold jG th at h;rw[hg]at h;exact h
      obtain⟨v,sv,m1,m2,m3⟩:=K2 hok g hO hA.env hop hev h';have hw:au o (yielded ops a.tmps)=true:=by unfold au;rw[hg]
      refine fin (C:=dL) dL.refl (fun _ _ _ _ _ _=>dL.trans) (.inl fun _ _ _ _ h=>h) (v:=v) (.inl ⟨hw,fun w' A' hc=>m3 w' A' hc⟩) ?_;exact(kD m1 hA (Tr.refl _) rfl m2 g (fun d hd=>hW i o d ho hd))
     |false=>
      have hkind:kindOf cx o=0\/(kindOf cx o=1/\∀j,j<ops.size->j≠i->listed.getD j true=false->gw cx ops.toList j=true->mR ops i j):=by
       rw[hd,Bool.or_false]at hst;simp only[pC,hol]at hst;split at hst
       ·rename_i hk;exact .inl hk
       ·rename_i hk
        refine .inr ⟨hk,fun j hj hji hun hl =>?_⟩;rw[cg]at hst;have:=hst j (by rw[ix];simpa using hj);simp only[c8,hun,hl,ct,a7,or_false]at this;rcases this with this|this
        ·exact absurd (ah this) hji
        ·exact G0 this
       ·cases hst
      let C:uZ:=fun w _ w' _=>kindOf cx o=0\/Below w.heap.size w w'
      have hCr:∀w A,C w A w A:=fun w A =>.inr (Below.refl _ _)
      have hCt:∀a A b B c D,C a A b B->C b B c D->C a A c D:=by
       intro a A b B c D h1 h2;rcases h1 with h1|h1
       ·exact .inl h1
       ·rcases h2 with h2|h2
        ·exact .inl h2
        ·exact .inr (h1.trans (h2.mono h1.size))
      have hCC:(∀w A w' A',dL w A w' A'->C w A w' A')\/((∀w A w' A',Below w.heap.size w w'->C w A w' A')/\∀j,listed.getD j true=false->j≠i->gw cx ops.toList j=true->mR ops i j):=by
       rcases hkind with hk|⟨hk,hanc⟩
       ·exact .inl fun _ _ _ _ _ =>.inl hk
       ·refine .inr ⟨fun _ _ _ _ hb =>.inr hb,fun j hun hji hl=>hanc j ?_ hji hun hl⟩
        rcases a8 j ops.size with hh|hh
        ·exact hh
        ·unfold gw at hl
         rw[Array.getElem?_toList,Array.getElem?_eq_none hh]at hl;cases hl
      unfold jG at h;obtain⟨st1,hA1,g1,hs1,hag1,hcase⟩:=rf hA g hW h;rcases hcase with⟨hw,h'⟩|⟨hw,h'⟩
      ·obtain⟨v,sv,st2,loc2,m1,m2,m3,m4,m5,m6⟩:=G5 hok g1 hO hA1.env (hkind.imp id (·.1)) h'
       refine fin hCr hCt hCC (v:=v) (.inl ⟨hw,fun w' _ hc=>m6 w' hc⟩) ?_;exact(kD m1 hA1 m4 m2 m5 m3 (fun d hd=>hW i o d ho hd)).mono (by rw[hs1];exact Tr.refl _) hag1
      ·refine fin hCr hCt hCC (v:=undef) (.inr ⟨hw,rfl⟩) ?_
       exact(kD (loc:=loc) (w:=w) h' hA1 (Tr.refl _) rfl (show cR cx.eT _ (.jy []) undef from⟨[],rfl,.nil⟩) g1 (fun d hd=>hW i o d ho hd)).mono (by rw[hs1];exact Tr.refl _) hag1
    ·exact h.elim
   ·have hall:=G7 h
    refine⟨fun e=>(by rw[hr]at e;cases e),fun i hi=>one i hi ?_⟩;exact hall i (by rw[<-hr];exact hi)
end
structure rU (ops:Array Oper) (m:Nat) (listed:Array Bool):Prop where
 size:listed.size=ops.size
 bits:∀k,m.testBit k=listed.getD k false
def rU.out{ops:Array Oper}{m:Nat}{listed:Array Bool}(h:rU ops m listed){i:Nat}(hi:i<ops.size):listed.getD i true=m.testBit i:=by
 rw[h.bits];simp[h.size,hi]
def rU.set{ops:Array Oper}{m:Nat}{listed:Array Bool}(h:rU ops m listed){i:Nat}(hi:i<ops.size):rU ops (m ||| (1<<< i)) (listed.setIfInBounds i true):=by
 refine⟨by simp[h.size],fun k =>?_⟩;rw[cf,h.bits,c7,cd];by_cases e:i=k
 ·subst e;simp[h.size,hi]
 ·simp[e,Array.getElem?_setIfInBounds]
def K3(a b m:Nat):(ab ((a ||| b)&&&m) (a ||| b))=(ab (a&&&m) a&&ab (b&&&m) b):=by
 rw[bm,ae,ch,ch,ch];constructor
 ·intro h
  have hb:∀k,(a.testBit k || b.testBit k)=true->m.testBit k=true:=fun k hk=>by
   have:=congrArg (fun x=>x.testBit k) h;simp only[cj,cf]at this;rw[hk]at this;simpa using this
  constructor <;> apply j5 <;> intro k <;> rw[cj]
  ·cases ha:a.testBit k with
   |false=>rfl
   |true=>rw[hb k (by rw[ha];rfl)];rfl
  ·cases ha:b.testBit k with
   |false=>rfl
   |true=>rw[hb k (by rw[ha];simp)];rfl
 ·rintro⟨h1,h2⟩
  rw[Nat.and_or_distrib_right,h1,h2]
def L5(k m:Nat):ab ((1<<< k)&&&m) (1<<< k)=m.testBit k:=by
 rw[bm,ch,c7];constructor
 ·intro h
  have:=congrArg (fun x=>x.testBit k) h;simpa[cj,cd]using this
 ·intro h
  apply j5;intro j;rw[cj,cd];by_cases e:k=j
  ·subst e;simp[h]
  ·simp[e]
def G8(o:Oper)(m:Nat):ab (u4 o&&&m) (u4 o)=o.after.toList.all fun e =>!ao .any e || m.testBit e.on:=by
 have key:∀(l:List Edge) (s:Nat),
   ab (l.foldl (fun s e=>match ao .any e with|true=>s ||| (1<<< e.on)|false=>s) s&&&m) (l.foldl (fun s e=>match ao .any e with|true=>s ||| (1<<< e.on)|false=>s) s)=
    (ab (s&&&m) s&&l.all fun e =>!ao .any e || m.testBit e.on):=by
  intro l;induction l with
  |nil=>intro s;simp
  |cons e l ih=>
   intro s;rw[cw,ih,dn];cases ao .any e with
   |true=>simp only[K3,L5,ct,Bool.false_or,Bool.and_assoc]
   |false=>simp
 have:=key o.after.toList 0;simpa[u4]using this
def yG{m:Nat}{p:Nat->Bool}:∀(l:List Nat) (i:Nat),(∀k am,l[k]?=some am->G3 am m (i+k)=p (i+k))->kC l m i=(List.range' i l.length).filter p
 |[],_,_=>rfl
 |am :: r,i,h=>by
  have h0:G3 am m i=p i:=by simpa using h 0 am rfl
  have ih:=yG (m:=m) (p:=p) r (i+1) fun k am' hk=>by
   have:=h (k+1) am' (by simpa using hk)
   rwa [show i+(k+1)=i+1+k by omega]at this
  have e:kC (am :: r) m i=match G3 am m i with|true=>i :: kC r m (i+1)|false=>kC r m (i+1):=by rw[kC]
  rw[j6,j7,cr,<-ih,e,h0];cases p i <;> rfl
def Bs{m i:Nat}{p:Nat->Bool}:∀(ls:List Bool) (Nj:List Nat) (j:Nat),ls.length=Nj.length->
  (∀k l a,ls[k]?=some l->Nj[k]?=some a->(!(l&&(!(ab (j+k) i)&&(!(m.testBit (j+k))&&!(a.testBit i)))))=p (j+k))->qj m i ls Nj j=(List.range' j ls.length).all p
 |[],[],_,_,_=>rfl
 |[],_ :: _,_,h,_=>by simp at h
 |_ :: _,[],_,h,_=>by simp at h
 |l :: ls,a :: Nj,j,hl,h=>by
  have h0:=h 0 l a rfl rfl;rw[cz]at h0;have ih:=Bs (m:=m) (i:=i) (p:=p) ls Nj (j+1) (by simpa using hl) fun k l' a' hk ha=>by
   have:=h (k+1) l' a' (by simpa using hk) (by simpa using ha)
   rwa [show j+(k+1)=j+1+k by omega]at this
  have e:qj m i (l :: ls) (a :: Nj) j=match l&&(!(ab j i)&&(!(m.testBit j)&&!(a.testBit i)))with|true=>false|false=>qj m i ls Nj (j+1):=by rw[qj]
  rw[j6,j7,dn,<-ih,<-h0,e];cases(l&&(!(ab j i)&&(!(m.testBit j)&&!(a.testBit i)))) <;> rfl
def tY:∀(r:List Oper) (ms:List Nat),(mh r ms).length=ms.length+r.length
 |[],ms=>by simp[mh]
 |o :: r,ms=>by rw[mh,tY r];simp;omega
def G9(l:List Oper):(fu l).length=l.length:=by unfold fu;rw[tY];simp
def Bt{ops:Array Oper}{m:Nat}{listed:Array Bool}(h:rU ops m listed):kC (ops.toList.map u4) m 0=av .any ops listed:=by
 unfold av;rw[yG (p:=fun i =>!listed.getD i true&&((ops[i]?).map (·.after.all fun e =>!ao .any e || listed.getD e.on false)).getD false),ca,kc]
 ·rfl
 ·intro k am hk
  rw[ay];rw[List.getElem?_map,Array.getElem?_toList]at hk;cases ho:ops[k]? with
  |none=>rw[ho]at hk;cases hk
  |some o=>
   rw[ho]at hk;simp only[bq,dp]at hk;have hlt:k<ops.size:=(Array.getElem?_eq_some_iff.1 ho).1;unfold G3;rw[<-hk,G8,h.out hlt];simp only[bq,br];congr 1;rw[<-Array.all_toList];congr 1
   funext e
   rw[h.bits]
def Ha{cx:Cx}{ops:Array Oper}{m:Nat}{listed:Array Bool}(h:rU ops m listed)(i:Nat) :
  tj (ops.toList.map (kindOf cx)) (ops.toList.map fun o=>ab (kindOf cx o) 3) (fu ops.toList) m i=pC cx ops.toList (fu ops.toList) listed i:=by
 unfold tj pC;rw[List.getD_eq_getElem?_getD,List.getElem?_map];cases ho:ops.toList[i]? with
 |none=>rfl
 |some o=>
  simp only[bq,br];have hfree:qj m i (ops.toList.map fun o=>ab (kindOf cx o) 3) (fu ops.toList) 0=(b3 ops.toList.length).all fun j=>ab j i || listed.getD j true || !(gw cx ops.toList j) || ((fu ops.toList).getD j 0).testBit i:=by
   rw[Bs (p:=fun j=>ab j i || listed.getD j true || !(gw cx ops.toList j) || ((fu ops.toList).getD j 0).testBit i),ca,kc]
   ·rw[ca,G9]
   ·intro k l a hk ha
    rw[ay];rw[List.getElem?_map]at hk;cases hoo:ops.toList[k]? with
    |none=>rw[hoo]at hk;cases hk
    |some o'=>
     rw[hoo]at hk;simp only[bq,dp]at hk;have hlt:k<ops.size:=by rw[Array.getElem?_toList]at hoo;exact(Array.getElem?_eq_some_iff.1 hoo).1
     have hm:(fu ops.toList).getD k 0=a:=by rw[List.getD_eq_getElem?_getD,ha];rfl
     have hl:gw cx ops.toList k=l:=by unfold gw;rw[hoo];exact hk
     rw[hm,hl,h.out hlt];cases l <;> cases ab k i <;> cases m.testBit k <;> cases a.testBit i <;> rfl
  split
  ·rfl
  ·exact hfree
  ·rfl
def K4{cx:Cx}{ops:Array Oper}{K:St->VC}:∀(n m:Nat) (listed:Array Bool) (st:St),rU ops m listed->
  anyM cx ops (ops.toList.map u4) (ops.toList.map (kindOf cx)) (ops.toList.map fun o=>ab (kindOf cx o) 3) (fu ops.toList) n m st K=ju cx ops (fu ops.toList) n listed st K:=by
 intro n;induction n with
 |zero=>intro m listed st h;unfold anyM ju;rw[Bt h]
 |succ n ih=>
  intro m listed st h;unfold anyM ju;rw[Bt h];have hst:(fun i=>tj (ops.toList.map (kindOf cx)) (ops.toList.map fun o=>ab (kindOf cx o) 3) (fu ops.toList) m i || qi cx ops st i)=fun i=>pC cx ops.toList (fu ops.toList) listed i || qi cx ops st i:=funext fun i=>by rw[Ha h]
  rw[hst];have hone:∀i,(match ops[i]? with
    |some o=>jG cx ops.toList st o fun st'=>anyM cx ops (ops.toList.map u4) (ops.toList.map (kindOf cx)) (ops.toList.map fun o=>ab (kindOf cx o) 3) (fu ops.toList) n (m ||| (1<<< i)) st' K
    |none=>VC.ff)=(match ops[i]? with
    |some o=>jG cx ops.toList st o fun st'=>ju cx ops (fu ops.toList) n (listed.setIfInBounds i true) st' K
    |none=>VC.ff):=by
   intro i;cases ho:ops[i]? with
   |none=>rfl
   |some o=>
    have hlt:i<ops.size:=(Array.getElem?_eq_some_iff.1 ho).1;simp only;congr 1
    funext st'
    exact ih _ _ st' (h.set hlt)
  split
  ·rfl
  ·split
   ·rename_i i hf
    exact hone i
   ·congr 1
    funext i
    exact hone i
def Em{cx:Cx}{ops:Array Oper}{st:St}{K:St->VC}:L4 cx ops st K=ju cx ops (fu ops.toList) ops.size (kh ops.size false) st K:=
 K4 _ _ _ _ ⟨by simp,fun k=>by simp[Array.getElem?_replicate];split <;> rfl⟩
def lM(r:Nat->Nat):C->C
 |.app t xs n =>.app t xs (r n)
 |.aM n =>.aM (r n)
 |.lB n t lo len =>.lB (r n) t lo len
 |.kZ n =>.kZ (r n)
 |.eL n =>.eL (r n)
 |.xd n p =>.xd (r n) p
 |.ref n o =>.ref (r n) o
 |.nU n =>.nU (r n)
 |.iG n t i o =>.iG (r n) t i o
 |.fn f caps =>.fn f (caps.map r)
 |c=>c
def ql(r:Nat->Nat):List C->List C
 |[]=>[]
 |c :: cs=>lM r c :: ql r cs
def pD(r:Nat->Nat):bT->bT
 |.one c =>.one (lM r c)
 |.agg cs =>.agg (ql r cs)
def pE(r:Nat->Nat):List bT->List bT
 |[]=>[]
 |c :: cs=>pD r c :: pE r cs
def tl(r:Nat->Nat):SV->SV
 |.s x =>.s (pD r x)
 |.jy xs =>.jy (pE r xs)
def fR(r:Nat->Nat):OC->OC
 |.cells T cs =>.cells T (ql r cs)
 |.iter cs seen cl =>.iter (ql r cs) seen cl
 |oc=>oc
def pF(r:Nat->Nat):List (Nat×SV)->List (Nat×SV)
 |[]=>[]
 |(t,v) :: l=>(t,tl r v) :: pF r l
def mi(r:Nat->Nat):List (Nat×OC)->List (Nat×OC)
 |[]=>[]
 |(n,oc) :: l=>(r n,fR r oc) :: mi r l
def gP(r:Nat->Nat)(st:St):St:={env:=pF r st.env,aC:=mi r st.aC,next:=st.next}
structure jo (base next:Nat) (r q:Nat->Nat):Prop where
 low:∀n,n<base->r n=n
 lt:∀n,n<next->r n<next
 back:∀n,n<next->q (r n)=n
 Nh:∀n,n<next->q n<next
 Fi:∀n,n<next->r (q n)=n
section
variable{X:Ext}{cx:Cx}{base next:Nat}{r q:Nat->Nat}
def jo.Jm(h:jo base next r q)(hb:base<=next){n:Nat}(hn:n<base):q n=n:=by
 have:=h.back n (by omega);rw[h.low n hn]at this;exact this
def tZ(l:List (Nat×SV))(t:Nat):look (pF r l) t=(look l t).map (tl r):=by
 induction l with
 |nil=>rfl
 |cons p l ih=>
  obtain⟨m,v⟩:=p;simp only[pF,bM];split
  ·rfl
  ·exact ih
def Bu(h:jo base next r q):∀{l:List (Nat×OC)},(∀p∈l,p.1<next)->∀m,m<next->look (mi r l) m=(look l (q m)).map (fR r):=by
 intro l;induction l with
 |nil=>intro _ m _;rfl
 |cons p l ih=>
  obtain⟨n,oc⟩:=p;intro hk m hm;have hn:n<next:=hk (n,oc) (by simp)
  simp only[mi,bM];by_cases e:r n=m
  ·rw[if_pos e,if_pos (by rw[<-e,h.back n hn])];rfl
  ·rw[if_neg e,if_neg (fun e2=>e (by rw[e2,h.Fi m hm]))]
   exact ih (fun p hp=>hk p (by simp[hp])) m hm
def u5(h:jo base next r q):∀{l:List (Nat×OC)},(∀p∈l,p.1<next)->∀m,¬m<next->look (mi r l) m=none:=by
 intro l;induction l with
 |nil=>intro _ m _;rfl
 |cons p l ih=>
  obtain⟨n,oc⟩:=p;intro hk m hm;simp only[mi,bM];rw[if_neg (fun e=>hm (by rw[<-e];exact h.lt n (hk (n,oc) (by simp))))];exact ih (fun p hp=>hk p (by simp[hp])) m hm
def u6{α:Type}{l:List (Nat×α)}{p:Nat×α}(hp:p∈l):∃x,look l p.1=some x:=by
 induction l with
 |nil=>cases hp
 |cons p' l ih=>
  obtain⟨m,y⟩:=p';rw[bM];by_cases e:m=p.1
  ·exact⟨y,by rw[if_pos e]⟩
  ·rw[if_neg e]
   rcases ag.1 hp with rfl|hp
   ·exact absurd rfl e
   ·exact ih hp
def Bv(oc:OC):(fR r oc).lo=oc.lo:=by cases oc <;> rfl
section
variable{O:aD}{st:St}{loc:Nat->Loc}{w:World}
def lN(h:jo base st.next r q)(g:Good cx.eT X (aB O st loc w)){m:Nat}{oc':OC}:(aB O (gP r st) (fun m=>loc (q m)) w).ob m=some oc'↔m<st.next/\∃oc,look st.aC (q m)=some oc/\oc'=fR r oc:=by
 have hk:∀p∈st.aC,p.1<st.next:=fun p hp=>by
  obtain⟨x,hx⟩:=u6 hp;exact(g.obj p.1 x hx).1
 show look (mi r st.aC) m=some oc'↔_;by_cases hm:m<st.next
 ·rw[Bu h hk m hm]
  cases look st.aC (q m)with
  |none=>simp
  |some oc=>simp[hm,eq_comm]
 ·rw[u5 h hk m hm];simp[hm]
def Fj(h:jo base st.next r q)(g:Good cx.eT X (aB O st loc w)):(aB O (gP r st) (fun m=>loc (q m)) w).A=(aB O st loc w).A:=by
 funext b off
 apply propext;constructor
 ·rintro(k|⟨m,oc',k1,k2,k3⟩)
  ·exact .inl k
  ·obtain⟨hm,oc,h1,rfl⟩:=(lN h g).1 k1
   exact .inr ⟨q m,oc,h1,k2,by rwa [Bv]at k3⟩
 ·rintro(k|⟨n,oc,k1,k2,k3⟩)
  ·exact .inl k
  ·have hn:=(g.obj n oc k1).1
   refine .inr ⟨r n,fR r oc,(lN h g).2 ⟨h.lt n hn,oc,by rw[h.back n hn];exact k1,rfl⟩,?_,by rw[Bv];exact k3⟩;show b∈(loc (q (r n))).bs;rw[h.back n hn];exact k2
def Bw(h:jo base st.next r q)(g:Good cx.eT X (aB O st loc w)){b:Nat}(hb:(aB O (gP r st) (fun m=>loc (q m)) w).owns b):(aB O st loc w).owns b:=by
 obtain⟨m,oc',k1,k2⟩:=hb;obtain⟨hm,oc,h1,rfl⟩:=(lN h g).1 k1;exact⟨q m,oc,h1,k2⟩
def Hb(h:jo base st.next r q)(g:Good cx.eT X (aB O st loc w)){c:C}{v:Value}(hc:CR cx.eT (aB O st loc w) c v):CR cx.eT (aB O (gP r st) (fun m=>loc (q m)) w) (lM r c) v:=by
 have hA:=Fj (r:=r) (q:=q) h g;have obn:∀{n:Nat} {oc:OC},n<st.next->(aB O (gP r st) (fun m=>loc (q m)) w).ob (r n)=some oc->∃oc0,look st.aC n=some oc0/\oc=fR r oc0:=by
  intro n oc hn ho;obtain⟨_,oc0,h1,h2⟩:=(lN h g).1 ho;rw[h.back n hn]at h1;exact⟨oc0,h1,h2⟩
 cases c with
 |lit b=>exact hc
 |d t x=>show VR cx.eT t x _ w v;rw[hA];exact hc
 |app t xs n=>
  obtain⟨h1,h2,h3⟩:=hc;refine⟨by rw[hA];exact h1,h.lt n h2,fun ys hy =>?_⟩;obtain⟨oc0,k1,k2⟩:=obn h2 hy;cases oc0 <;> simp[fR]at k2;obtain⟨rfl,rfl⟩:=k2;obtain⟨m1,m2⟩:=h3 _ k1;exact⟨m1,fun e=>by show v=(loc (q (r n))).v;rw[h.back n h2];exact m2 e⟩
 |fO=>exact hc
 |eS=>exact hc
 |emp=>exact hc
 |aM n=>
  refine⟨h.lt n hc.1,fun t xs e =>?_⟩;obtain⟨oc0,k1,k2⟩:=obn hc.1 e;cases oc0 <;> simp[fR]at k2;obtain⟨rfl,rfl⟩:=k2;show v=(loc (q (r n))).v;rw[h.back n hc.1];exact hc.2 _ _ k1
 |lB n t lo len=>
  refine⟨h.lt n hc.1,fun xs e =>?_⟩;obtain⟨oc0,k1,k2⟩:=obn hc.1 e;cases oc0 <;> simp[fR]at k2;obtain⟨rfl,k3⟩:=k2;rcases hc.2 _ k1 with h5|⟨b,c,h5,h6⟩
  ·exact .inl h5
  ·exact .inr ⟨b,c,by show(loc (q (r n))).bs=[b];rw[h.back n hc.1];exact h5,h6⟩
 |kZ n=>
  refine⟨h.lt n hc.1,fun t xs e =>?_⟩;obtain⟨oc0,k1,k2⟩:=obn hc.1 e;cases oc0 <;> simp[fR]at k2;obtain⟨rfl,rfl⟩:=k2;show v=(loc (q (r n))).v;rw[h.back n hc.1];exact hc.2 _ _ k1
 |eL n=>
  refine⟨h.lt n hc.1,fun oc e hx =>?_⟩;obtain⟨oc0,k1,k2⟩:=obn hc.1 e;have hx':oc0.LQ=true:=by subst k2;cases oc0 <;> first|rfl|cases hx
  show v=(loc (q (r n))).v;rw[h.back n hc.1];exact hc.2 _ k1 hx'
 |xd n p=>
  refine⟨h.lt n hc.1,fun t x e =>?_⟩;obtain⟨oc0,k1,k2⟩:=obn hc.1 e;cases oc0 <;> simp[fR]at k2;obtain⟨rfl,rfl,k2⟩:=k2;show GI p (loc (q (r n))).v v;rw[h.back n hc.1];exact hc.2 _ _ k1
 |ref n off=>
  refine⟨h.lt n hc.1,fun T cs e =>?_⟩;obtain⟨oc0,k1,k2⟩:=obn hc.1 e;cases oc0 <;> simp[fR]at k2;show ∃b,(loc (q (r n))).v=_/\_
  rw[h.back n hc.1];exact hc.2 _ _ k1
 |nU n=>
  refine⟨h.lt n hc.1,?_⟩;rcases hc.2 with hn|hn
  ·exact .inl hn
  ·refine .inr fun T cs e =>?_
   obtain⟨oc0,k1,k2⟩:=obn hc.1 e;cases oc0 <;> simp[fR]at k2;show v=(loc (q (r n))).v;rw[h.back n hc.1];exact hn _ _ k1
 |iG n t i off=>
  refine⟨h.lt n hc.1,fun⟨xs,e⟩ =>?_⟩;show ∃b,(loc (q (r n))).bs=_/\_
  rw[h.back n hc.1];rcases e with e|e
  ·obtain⟨oc0,k1,k2⟩:=obn hc.1 e
   cases oc0 <;> simp[fR]at k2;obtain⟨rfl,rfl⟩:=k2;exact hc.2 ⟨_,.inl k1⟩
  ·obtain⟨oc0,k1,k2⟩:=obn hc.1 e
   cases oc0 <;> simp[fR]at k2;obtain⟨rfl,rfl⟩:=k2;exact hc.2 ⟨_,.inr k1⟩
 |la t x=>
  obtain⟨b,o,us,rfl,h1,h2⟩:=hc;exact⟨b,o,us,rfl,by rw[hA];exact h1,by rw[hA];exact h2⟩
 |fn f caps=>
  obtain⟨rfl,h2⟩:=hc;refine⟨?_,fun m hm =>?_⟩
  ·congr 2
   rw[List.map_map];exact dT fun n hn=>by show _=(loc (q (r n))).v;rw[h.back n (h2 n hn).1];rfl
  ·obtain⟨n,hn,rfl⟩:=List.mem_map.1 hm
   refine⟨h.lt n (h2 n hn).1,fun t ys e =>?_⟩;obtain⟨oc0,k1,k2⟩:=obn (h2 n hn).1 e;cases oc0 <;> simp[fR]at k2;obtain⟨rfl,rfl⟩:=k2;exact(h2 n hn).2 _ _ k1
 |any=>trivial
def tm(h:jo base st.next r q)(g:Good cx.eT X (aB O st loc w)):∀{cs:List C} {vs:List Value},dq cx.eT (aB O st loc w) cs vs->dq cx.eT (aB O (gP r st) (fun m=>loc (q m)) w) (ql r cs) vs
 |_,_,.nil =>.nil
 |_,_,.cons h1 h2 h3 =>.cons (Hb h g h1) h2 (tm h g h3)
def Bx(h:jo base st.next r q)(g:Good cx.eT X (aB O st loc w)){x:bT}{v:Value}(hx:e8 cx.eT (aB O st loc w) x v):e8 cx.eT (aB O (gP r st) (fun m=>loc (q m)) w) (pD r x) v:=by
 cases x with
 |one c=>exact Hb h g hx
 |agg cs=>obtain⟨vs,rfl,hv⟩:=hx;exact⟨vs,rfl,tm h g hv⟩
def yH(h:jo base st.next r q)(g:Good cx.eT X (aB O st loc w)):∀{cs:List bT} {vs:List Value},bW cx.eT (aB O st loc w) cs vs->bW cx.eT (aB O (gP r st) (fun m=>loc (q m)) w) (pE r cs) vs
 |_,_,.nil =>.nil
 |_,_,.cons h1 h3 =>.cons (Bx h g h1) (yH h g h3)
def K5(h:jo base st.next r q)(g:Good cx.eT X (aB O st loc w)){x:SV}{v:Value}(hx:cR cx.eT (aB O st loc w) x v):cR cx.eT (aB O (gP r st) (fun m=>loc (q m)) w) (tl r x) v:=by
 cases x with
 |s x=>exact Bx h g hx
 |jy xs=>obtain⟨vs,rfl,hv⟩:=hx;exact⟨vs,rfl,yH h g hv⟩
def rV(h:jo base st.next r q)(g:Good cx.eT X (aB O st loc w)){t:Ty}{xs:List (D t)}{vs:Array Value}(he:gL cx.eT (aB O st loc w) t xs vs):gL cx.eT (aB O (gP r st) (fun m=>loc (q m)) w) t xs vs:=by
 intro i y hy;obtain⟨us,h1,h2⟩:=he i y hy;exact⟨us,by rw[Fj h g];exact h1,h2⟩
def L6(h:jo base st.next r q)(g:Good cx.eT X (aB O st loc w)){l:Loc}{oc:OC}(ho:OR cx.eT X (aB O st loc w) l oc):OR cx.eT X (aB O (gP r st) (fun m=>loc (q m)) w) l (fR r oc):=by
 cases oc with
 |cells T cs=>obtain⟨b,vs,h1,h2,h3,h4⟩:=ho;exact⟨b,vs,h1,h2,h3,tm h g h4⟩
 |aM t xs=>
  rcases ho with ho|⟨b,vs,T,cap,h1,h2,h3,h4,h5,h6,h7⟩
  ·exact .inl ho
  ·exact .inr ⟨b,vs,T,cap,h1,h2,h3,h4,h5,h6,rV h g h7⟩
 |arr t xs=>obtain⟨b,vs,T,h1,h2,h3,h4,h5⟩:=ho;exact⟨b,vs,T,h1,h2,h3,h4,rV h g h5⟩
 |tok t xs=>
  rcases ho with ho|⟨b,vs,T,cap,h1,h2,h3,h4,h5,h6,h7⟩
  ·exact .inl ho
  ·exact .inr ⟨b,vs,T,cap,h1,h2,h3,h4,h5,h6,rV h g h7⟩
 |ext k t x=>exact ho
 |iter cs seen cl=>obtain⟨b,m,c,sn,h1,h2,h3,h4,h5,h6⟩:=ho;exact⟨b,m,c,sn,h1,h2,h3,tm h g h4,h5,h6⟩
def Jn(h:jo base st.next r q)(g:Good cx.eT X (aB O st loc w)):Good cx.eT X (aB O (gP r st) (fun m=>loc (q m)) w):=by
 refine⟨fun n oc' ho =>?_,fun n m oc oc' b h1 h2 h3 h4 =>?_,fun n oc' b off ho hb =>?_,g.gl.sub rfl fun b hb=>Bw h g hb⟩
 ·obtain⟨hn,oc,k1,rfl⟩:=(lN h g).1 ho
  exact⟨hn,L6 h g (g.obj _ _ k1).2⟩
 ·obtain⟨hn,oc1,k1,rfl⟩:=(lN h g).1 h1
  obtain⟨hm,oc2,k2,rfl⟩:=(lN h g).1 h2;have:=g.apart (q n) (q m) oc1 oc2 b k1 k2 h3 h4;rw[<-h.Fi n hn,<-h.Fi m hm,this]
 ·obtain⟨hn,oc,k1,rfl⟩:=(lN h g).1 ho
  exact g.out (q n) oc b off k1 hb
def Jo{l l':Loc}{a b:OC}(h:aO l l' a b):aO l l' a (fR r b):=by
 cases a <;> cases b <;> first|exact h|exact h.elim
def L7(h:jo base st.next r q)(g:Good cx.eT X (aB O st loc w)){S:aY}(hS:S.next=base)(hb:base<=st.next)(t:Tr S (aB O st loc w)):Tr S (aB O (gP r st) (fun m=>loc (q m)) w) where
 O:=t.O
 next:=t.next
 os:=t.os
 output:=t.output
 size:=t.size
 own b hb':=t.own b (Bw h g hb')
 cell b o v ha hc:=by
  obtain⟨h1,h2⟩:=t.cell b o v ha hc;exact⟨h1,by rw[Fj h g];exact h2⟩
 block:=t.block
 loc n hn hf:=by
  show(loc (q n)).v=_/\(_->loc (q n)=_);rw[h.Jm hb (by omega)];exact t.loc n hn hf
 kind n oc' hn ho:=by
  obtain⟨_,oc1,k1,rfl⟩:=(lN h g).1 ho;rw[h.Jm hb (by omega)]at k1;obtain⟨oc,k2,k3⟩:=t.kind n oc1 hn k1;refine⟨oc,k2,?_⟩;show aO (S.loc n) (loc (q n)) oc (fR r oc1);rw[h.Jm hb (by omega)];exact Jo k3
def By{S:aY}(hS:S.next=base)(hl:∀n,n<base->r n=n){c:C}{v:Value}(hc:CR cx.eT S c v):lM r c=c:=by
 subst hS;cases c with
 |app t xs n=>simp only[lM];rw[hl n hc.2.1]
 |aM n=>simp only[lM];rw[hl n hc.1]
 |lB n t lo len=>simp only[lM];rw[hl n hc.1]
 |kZ n=>simp only[lM];rw[hl n hc.1]
 |eL n=>simp only[lM];rw[hl n hc.1]
 |xd n p=>simp only[lM];rw[hl n hc.1]
 |ref n off=>simp only[lM];rw[hl n hc.1]
 |nU n=>simp only[lM];rw[hl n hc.1]
 |iG n t i off=>simp only[lM];rw[hl n hc.1]
 |fn f caps=>
  simp only[lM];congr 1;have:caps.map r=caps.map id:=dT fun n hn=>hl n (hc.2 n hn).1
  simpa using this
 |_=>rfl
def yI{S:aY}(hS:S.next=base)(hl:∀n,n<base->r n=n):∀{cs:List C} {vs:List Value},dq cx.eT S cs vs->ql r cs=cs
 |_,_,.nil=>rfl
 |_,_,.cons h1 _ h3=>by simp only[ql];rw[By hS hl h1,yI hS hl h3]
def wy{S:aY}(hS:S.next=base)(hl:∀n,n<base->r n=n){x:bT}{v:Value}(hc:e8 cx.eT S x v):pD r x=x:=by
 cases x with
 |one c=>simp only[pD];rw[By hS hl hc]
 |agg cs=>obtain⟨vs,_,hv⟩:=hc;simp only[pD];rw[yI hS hl hv]
def ua{S:aY}(hS:S.next=base)(hl:∀n,n<base->r n=n):∀{cs:List bT} {vs:List Value},bW cx.eT S cs vs->pE r cs=cs
 |_,_,.nil=>rfl
 |_,_,.cons h1 h3=>by simp only[pE];rw[wy hS hl h1,ua hS hl h3]
def Hc{S:aY}(hS:S.next=base)(hl:∀n,n<base->r n=n){x:SV}{v:Value}(hc:cR cx.eT S x v):tl r x=x:=by
 cases x with
 |s x=>simp only[tl];rw[wy hS hl hc]
 |jy xs=>obtain⟨vs,_,hv⟩:=hc;simp only[tl];rw[ua hS hl hv]
end
def dZ.MU{O:aD}{K:St->VC}{W:List Nat}{st:St}{loc:Nat->Loc}{w:World}{a a':Act}{w':World}{f:St->St}(hA:dR cx (aB O st loc w) st a)
  (hf:∀st',f st'=st'\/∃r q,jo st.next st'.next r q/\f st'=gP r st')(h:dZ cx X O (fun st'=>K (f st')) W st (aB O st loc w) a' w'):dZ cx X O K W st (aB O st loc w) a' w':=by
 obtain⟨st',loc',k1,k2,k3,k4,k5⟩:=h;rcases hf st' with e|⟨r,q,ht,e⟩
 ·exact⟨st',loc',by rw[<-e];exact k1,k2,k3,k4,k5⟩
 ·refine⟨gP r st',fun m=>loc' (q m),by rw[<-e];exact k1,Jn ht k2,L7 ht k2 rfl k3.next k3,⟨k4.size,k4.defers,?_⟩,?_⟩
  ·intro t sv hl
   have hl:look (pF r st'.env) t=some sv:=hl;rw[tZ]at hl;obtain⟨sv0,h0,rfl⟩:=kk.1 hl;exact K5 ht k2 (k4.env t sv0 h0)
  ·intro hm t htW sv hl
   have hl:look (pF r st'.env) t=some sv:=hl;rw[tZ]at hl;obtain⟨sv0,h0,rfl⟩:=kk.1 hl;have h1:=k5 hm t htW sv0 h0;rw[Hc (cx:=cx) (S:=aB O st loc w) rfl ht.low (hA.env t sv0 h1)];exact h1
end
def En:C->List Nat
 |.app _ _ n|.aM n|.kZ n|.eL n|.xd n _|.ref n _|.nU n|.iG n _ _ _|.lB n _ _ _=>[n]
 |.fn _ caps=>caps
 |_=>[]
def xQ:List C->List Nat
 |[]=>[]
 |c :: cs=>En c++xQ cs
def L8(aC:List (Nat×OC)):C->List Nat
 |.ref n _=>n :: (match look aC n with
  |some (.cells _ cs)=>xQ cs
  |_=>[])
 |c=>En c
def K6(aC:List (Nat×OC)):SV->List Nat
 |.s (.one c)=>L8 aC c
 |.s (.agg cs)=>xQ cs
 |.jy _=>[]
def Eo(st:St):List Nat->List Nat
 |[]=>[]
 |d :: ds=>(match look st.env d with
  |some sv=>K6 st.aC sv
  |none=>[])++Eo st ds
def Kt(n:Nat):List Nat->Bool
 |[]=>false
 |m :: l=>match ab m n with
  |true=>true
  |false=>Kt n l
def AE(base next:Nat):List Nat->List Nat->List Nat
 |acc,[]=>acc
 |acc,n :: l=>match aq n base || !(aq n next) || Kt n acc with
  |true=>AE base next acc l
  |false=>AE base next (acc++[n]) l
def L9(base:Nat):Nat->List Nat
 |0=>[]
 |k+1=>L9 base k++[base+k]
def Ma(n:Nat):List Nat->Nat->Nat
 |[],_=>n
 |m :: l,i=>match ab m n with
  |true=>i
  |false=>Ma n l (i+1)
def MV:List Nat->Nat->Nat->Nat
 |[],_,d=>d
 |m :: _,0,_=>m
 |_ :: l,i+1,d=>MV l i d
def oJ(base:Nat)(l:List Nat)(n:Nat):Nat:=match aq n base with
 |true=>n
 |false=>Ma n l base
def qm(base:Nat)(l:List Nat)(n:Nat):Nat:=match aq n base with
 |true=>n
 |false=>MV l (n-base) n
def AF(base:Nat)(l:List Nat):Nat->Nat->Bool
 |_,0=>true
 |next,k+1=>aq (oJ base l k) next&&ab (qm base l (oJ base l k)) k&&aq (qm base l k) next&&ab (oJ base l (qm base l k)) k&&AF base l next k
def canon(base:Nat)(ds:List Nat)(st:St):St:=
 match aq (base+1) st.next with
 |false=>st
 |true=>
  let l:=AE base st.next (AE base st.next [] (Eo st ds)) (L9 base (st.next-base))
  match AF base l st.next st.next with
  |true=>gP (oJ base l) st
  |false=>st
def oK{base:Nat}{l:List Nat}{next:Nat}:∀k,AF base l next k=true->∀n,n<k->oJ base l n<next/\qm base l (oJ base l n)=n/\qm base l n<next/\oJ base l (qm base l n)=n:=by
 intro k;induction k with
 |zero=>intro _ n hn;omega
 |succ k ih=>
  intro h n hn;simp only[AF,ae]at h;obtain⟨⟨⟨⟨h1,h2⟩,h3⟩,h4⟩,h5⟩:=h;rcases a8 n k with hk|hk
  ·exact ih h5 n hk
  ·obtain rfl:n=k:=by omega
   exact⟨jb h1,ah h2,jb h3,ah h4⟩
def wz(base:Nat)(ds:List Nat)(st:St):canon base ds st=st\/∃r q,jo base st.next r q/\canon base ds st=gP r st:=by
 unfold canon;split
 ·exact .inl rfl
 ·simp only
  split
  ·rename_i h
   refine .inr ⟨_,qm base _,⟨fun n hn =>?_,fun n hn=>(oK _ h n hn).1,fun n hn=>(oK _ h n hn).2.1,fun n hn=>(oK _ h n hn).2.2.1,fun n hn=>(oK _ h n hn).2.2.2⟩,rfl⟩;unfold oJ;have:aq n base=true:=Nat.ble_eq_true_of_le hn;rw[this]
  ·exact .inl rfl
def VR.Fk{eT:TypeId}{t:Ty}{x:D t}{A A':aD}{w:World}{v:Value}(h:VR eT t x A w v)(hA:∀b o,¬A b o->¬A' b o):VR eT t x A' w v:=
 VR.frame h fun b o _ ha hc=>⟨hc,hA b o ha⟩
inductive Cl where
 |d (t:Ty)
 |obj (k:Nat)
 |eS
inductive Ob where
 |box (T:TypeId) (cs:List Cl)
 |row (keep:Bool) (t:Ty)
 |tok (t:Ty)
 |ext (k:Nat) (t:Ty)
@[reducible] def CD:List Cl->Type
 |[]=>Unit
 |.d t :: r=>D t×CD r
 |.obj _ :: r=>CD r
 |.eS :: r=>CD r
@[reducible] def OD:Ob->Type
 |.box _ cs=>CD cs
 |.row _ t=>List (D t)
 |.tok t=>List (D t)
 |.ext _ t=>D t
@[reducible] def PD:List Ob->Type
 |[]=>Unit
 |o :: r=>OD o×PD r
def Mb:(o:Ob)->OD o->Nat->C
 |.box _ _,_,n =>.ref n 0
 |.row _ _,_,n =>.aM n
 |.tok t,x,n =>.app t x n
 |.ext 0 _,_,n =>.xd n .top
 |.ext (_+1) _,_,n =>.eL n
def eB:(aG:List Ob)->PD aG->List Nat->Nat->C
 |o :: _,x,n :: _,0=>Mb o x.1 n
 |_ :: r,x,_ :: ns,k+1=>eB r x.2 ns k
 |_,_,_,_ =>.any
def Bz(f:Nat->C):(cs:List Cl)->CD cs->List C
 |[],_=>[]
 |.d t :: r,x =>.d t x.1 :: Bz f r x.2
 |.obj k :: r,x=>f k :: Bz f r x
 |.eS :: r,x =>.eS :: Bz f r x
def rW(f:Nat->C):(cs:List Cl)->CD cs->List bT
 |[],_=>[]
 |.d t :: r,x =>.one (.d t x.1) :: rW f r x.2
 |.obj k :: r,x =>.one (f k) :: rW f r x
 |.eS :: r,x =>.one .eS :: rW f r x
def mj(f:Nat->C):(o:Ob)->OD o->OC
 |.box T cs,x =>.cells T (Bz f cs x)
 |.row _ t,x =>.aM t x
 |.tok t,x =>.tok t x
 |.ext k t,x =>.ext k t x
def ib(f:Nat->C):(os:List Ob)->PD os->List Nat->List (Nat×OC)
 |o :: r,x,n :: ns=>(n,mj f o x.1) :: ib f r x.2 ns
 |_,_,_=>[]
def Ku:C->Option Nat
 |.ref n 0=>some n
 |.aM n=>some n
 |.app _ _ n=>some n
 |.eL n=>some n
 |.xd n .top=>some n
 |_=>none
def Hd(Nj:List (Nat×Nat))(cl:Cl)(c:C):Option (List (Nat×Nat)):=
 match cl with
 |.obj k=>match Ku c with
  |some n=>match look Nj k with
   |some m=>match ab m n with
    |true=>some Nj
    |false=>none
   |none=>some ((k,n) :: Nj)
  |none=>none
 |_=>some Nj
def Ep:List Cl->List C->List (Nat×Nat)->Option (List (Nat×Nat))
 |[],[],Nj=>some Nj
 |cl :: cls,c :: cs,Nj=>match Hd Nj cl c with
  |some as'=>Ep cls cs as'
  |none=>none
 |_,_,_=>none
def He:List Cl->List bT->List (Nat×Nat)->Option (List (Nat×Nat))
 |[],[],Nj=>some Nj
 |cl :: cls,v :: vs,Nj=>match Hd Nj cl (match v with|.one c=>c|.agg _ =>.any)with
  |some as'=>He cls vs as'
  |none=>none
 |_,_,_=>none
def tn(aC:List (Nat×OC)):Nat->List Ob->List (Nat×Nat)->Option (List (Nat×Nat))
 |_,[],Nj=>some Nj
 |k,.box _ cls :: r,Nj=>match look Nj k with
  |some n=>match look aC n with
   |some (.cells _ cs)=>match Ep cls cs Nj with
    |some as'=>tn aC (k+1) r as'
    |none=>none
   |_=>none
  |none=>none
 |k,_ :: r,Nj=>tn aC (k+1) r Nj
def rX(Nj:List (Nat×Nat)):Nat->Nat->Option (List Nat)
 |_,0=>some []
 |k,m+1=>match look Nj k,rX Nj (k+1) m with
  |some n,some l=>some (n :: l)
  |_,_=>none
def nodupB:List Nat->Bool
 |[]=>true
 |n :: r =>!(jA n r)&&nodupB r
def rY:List Nat->Nat->Option Nat
 |n :: _,0=>some n
 |_ :: r,k+1=>rY r k
 |[],_=>none
def qn:List Ob->Nat->Option Ob
 |o :: _,0=>some o
 |_ :: r,k+1=>qn r k
 |[],_=>none
def gg(cv:Bool)(aC:List (Nat×OC))(aG:List Ob)(ν:List Nat)(k:Nat)(c:C):Bool:=
 match qn aG k,rY ν k,c with
 |some (.box _ _),some n,.ref m 0=>ab n m
 |some (.row _ _),some n,.aM m=>ab n m&&(match look aC n with|some (.aM _ _)=>true|_=>false)
 |some (.row _ t),some n,.app t' _ m=>cv&&(ab n m&&(Ty.beq t' t&&(match look aC n with|some (.tok _ _)=>true|_=>false)))
 |some (.tok t),some n,.app t' _ m=>ab n m&&Ty.beq t' t
 |some (.ext 0 _),some n,.xd m .top=>ab n m
 |some (.ext (_+1) _),some n,.eL m=>ab n m
 |_,_,_=>false
def kE(cv:Bool)(aC:List (Nat×OC))(aG:List Ob)(ν:List Nat):(cls:List Cl)->List C->Option (CD cls)
 |[],[]=>some ()
 |.d t :: r,c :: cs=>match pq t c,kE cv aC aG ν r cs with
  |some x,some y=>some (x,y)
  |_,_=>none
 |.obj k :: r,c :: cs=>match gg cv aC aG ν k c with
  |true=>kE cv aC aG ν r cs
  |false=>none
 |.eS :: r,c :: cs=>match c with
  |.eS=>kE cv aC aG ν r cs
  |_=>none
 |_,_=>none
def iK(cv:Bool)(aC:List (Nat×OC))(aG:List Ob)(ν:List Nat):(cls:List Cl)->List bT->Option (CD cls)
 |[],[]=>some ()
 |.d t :: r,v :: vs=>match nq t v,iK cv aC aG ν r vs with
  |some x,some y=>some (x,y)
  |_,_=>none
 |.obj k :: r,v :: vs=>match v with
  |.one c=>match gg cv aC aG ν k c with
   |true=>iK cv aC aG ν r vs
   |false=>none
  |_=>none
 |.eS :: r,v :: vs=>match v with
  |.one .eS=>iK cv aC aG ν r vs
  |_=>none
 |_,_=>none
def Hf(t t':Ty)(xs:List (D t')):Option (List (D t)):=
 match h:Ty.beq (.slice t') (.slice t)with
 |true=>some (bR h (a:=.slice t') (b:=.slice t) xs)
 |false=>none
def Mc(t t':Ty)(x:D t'):Option (D t):=
 match h:Ty.beq t' t with
 |true=>some (bR h x)
 |false=>none
def fK(cv:Bool)(aC:List (Nat×OC))(aG:List Ob)(ν:List Nat):(o:Ob)->OC->Option (OD o)
 |.box T cls,.cells T' cs=>match ab T' T with
  |true=>kE cv aC aG ν cls cs
  |false=>none
 |.row _ t,.aM t' xs=>Hf t t' xs
 |.row _ t,.tok t' xs=>match cv with
  |true=>Hf t t' xs
  |false=>none
 |.tok t,.tok t' xs=>Hf t t' xs
 |.ext k t,.ext k' t' x=>match ab k' k with
  |true=>Mc t t' x
  |false=>none
 |_,_=>none
def dr(cv:Bool)(aC:List (Nat×OC))(aG:List Ob)(ν:List Nat):(os:List Ob)->List Nat->Option (PD os)
 |[],[]=>some ()
 |o :: r,n :: ns=>match look aC n with
  |some oc=>match fK cv aC aG ν o oc,dr cv aC aG ν r ns with
   |some x,some y=>some (x,y)
   |_,_=>none
  |none=>none
 |_,_=>none
def o6:(os:List Ob)->PD os->Nat->C->List Prop
 |.tok t :: _,x,0,.app t' xs _=>match h:Ty.beq (.slice t') (.slice t)with
  |true=>[bR h (a:=.slice t') (b:=.slice t) xs=x.1]
  |false=>[False]
 |.row _ t :: _,x,0,.app t' xs _=>match h:Ty.beq (.slice t') (.slice t)with
  |true=>[bR h (a:=.slice t') (b:=.slice t) xs=x.1]
  |false=>[False]
 |_ :: r,x,k+1,c=>o6 r x.2 k c
 |_,_,_,_=>[]
def ml(aG:List Ob)(x:PD aG):List Cl->List C->List Prop
 |.obj k :: r,c :: cs=>o6 aG x k c++ml aG x r cs
 |_ :: r,_ :: cs=>ml aG x r cs
 |_,_=>[]
def jc(aG:List Ob)(x:PD aG):List Cl->List bT->List Prop
 |.obj k :: r,v :: vs=>(match v with|.one c=>o6 aG x k c|.agg _=>[])++jc aG x r vs
 |_ :: r,_ :: vs=>jc aG x r vs
 |_,_=>[]
def fk(aG:List Ob)(x:PD aG)(aC:List (Nat×OC)):List Ob->List Nat->List Prop
 |.box _ cls :: r,n :: ns=>(match look aC n with|some (.cells _ cs)=>ml aG x cls cs|_=>[])++fk aG x aC r ns
 |_ :: r,_ :: ns=>fk aG x aC r ns
 |_,_=>[]
def BA:List Prop->Prop
 |[]=>True
 |[p]=>p
 |p :: q :: r=>p/\BA (q :: r)
def Jp:List Prop->VC->VC
 |[],k=>k
 |p :: r,k =>.and p (Jp r k)
def qo{n:Nat}:∀{l:List Nat},jA n l=true->n∈l
 |[],h=>by simp[jA]at h
 |m :: r,h=>by
  simp only[jA]at h;split at h
  ·rename_i e;rw[ah e];simp
  ·simp[qo h]
def cQ{α:Type}(l r:List (Nat×α))(n:Nat):look (l++r) n=match look l n with|some x=>some x|none=>look r n:=by
 induction l with
 |nil=>rfl
 |cons p l ih=>
  obtain⟨m,x⟩:=p;simp only[List.cons_append,look];cases ab m n
  ·exact ih
  ·rfl
section
variable(eT:TypeId)(X:Ext)
def rZ:Value->Value
 |.tuple vs=>vs.toList.headD .nilFunc
 |v=>v
def xR(ls:List Loc)(k:Nat)(v:Value):Prop:=∃l,ls[k]?=some l/\v=rZ l.v
def o7(S:aY)(F:Nat->Value->Prop):(cls:List Cl)->CD cls->List Value->Prop
 |[],_,vs=>vs=[]
 |.d t :: r,x,v :: vs=>VR eT t x.1 S.A S.w v/\o7 S F r x.2 vs
 |.obj k :: r,x,v :: vs=>F k v/\o7 S F r x vs
 |.eS :: r,x,v :: vs=>v=.pointer none/\o7 S F r x vs
 |_,_,_=>False
def Hg(S:aY)(F:Nat->Value->Prop):(o:Ob)->OD o->Loc->Prop
 |.box T cls,x,l=>∃b,∃vs:List Value,l.v=.pointer (some ⟨b,0,none⟩)/\l.bs=[b]/\S.w.heap[b]?=some (.cells vs.toArray T (0,0))/\o7 eT S F cls x vs/\∀v∈vs,v.oneCell'=true
 |.row _ t,x,l=>OR eT X S l (.aM t x)
 |.tok t,x,l=>OR eT X S l (.tok t x)
 |.ext k t,x,l=>OR eT X S l (.ext k t x)
def Fl(S:aY)(F:Nat->Value->Prop):(os:List Ob)->PD os->List Loc->Prop
 |[],_,ls=>ls=[]
 |o :: r,x,l :: ls=>Hg eT X S F o x.1 l/\Fl S F r x.2 ls
 |_,_,_=>False
end
section
variable{eT:TypeId}{X:Ext}
def fy{a b:List Prop}:(∀p∈a++b,p)↔(∀p∈a,p)/\(∀p∈b,p):=by
 simp only[ba];exact⟨fun h=>⟨fun p hp=>h p (.inl hp),fun p hp=>h p (.inr hp)⟩,fun h p hp=>hp.elim (h.1 p) (h.2 p)⟩
def qp:∀{l:List Prop},BA l->∀p∈l,p
 |[],_=>fun p hp=>by simp at hp
 |[q],h=>fun p hp=>by simp at hp;rw[hp];exact h
 |q :: r :: l,h=>fun p hp=>by
  rcases ag.1 hp with e|hp
  ·rw[e];exact h.1
  ·exact qp h.2 p hp
def u7{k:VC}:∀{l:List Prop},(Jp l k).holds->(∀p∈l,p)/\k.holds
 |[],h=>⟨fun p hp=>by simp at hp,h⟩
 |q :: l,h=>by
  obtain⟨h1,h2⟩:=h;obtain⟨h3,h4⟩:=u7 h2;exact⟨fun p hp=>by
   rcases ag.1 hp with e|hp
   ·rw[e];exact h1
   ·exact h3 p hp,h4⟩
def lh{t t':Ty}{xs:List (D t')}{ys:List (D t)}(h:Hf t t' xs=some ys):∃e:t'=t,e▸xs=ys:=by
 unfold Hf at h;split at h
 ·rename_i hb
  have:t'=t:=by have:=Ty.eq_of_beq hb;cases this;rfl
  subst this;cases h;exact⟨rfl,by rw[eg]⟩
 ·cases h
def BB{t t':Ty}{x:D t'}{y:D t}(h:Mc t t' x=some y):∃e:t'=t,e▸x=y:=by
 unfold Mc at h;split at h
 ·rename_i hb
  have:=Ty.eq_of_beq hb;subst this;cases h;exact⟨rfl,by rw[fQ]⟩
 ·cases h
def Er{t t':Ty}{xs:List (D t')}{ys:List (D t)}(hb:Ty.beq t' t=true)(h:∀p∈(match h:Ty.beq (.slice t') (.slice t)with
  |true=>[bR h (a:=.slice t') (b:=.slice t) xs=ys]
  |false=>[False]),p):∃e:t'=t,e▸xs=ys:=by
 have:=Ty.eq_of_beq hb;subst this;refine⟨rfl,?_⟩;split at h
 ·rename_i hb'
  have:=h (bR hb' (a:=.slice t') (b:=.slice t') xs=ys) (by simp);rw[eg]at this;exact this
 ·exact(h False (by simp)).elim
def tp{cv:Bool}{aG:List Ob}{ν:List Nat}{O:aD}{st:St}{loc:Nat->Loc}{w:World}{c:C}{v:Value}(g:Good eT X (aB O st loc w))(hc:CR eT (aB O st loc w) c v) :
  ∀{os:List Ob} {ns:List Nat} {x:PD os} {k:Nat},dr cv st.aC aG ν os ns=some x->gg cv st.aC os ns k c=true->(∀p∈o6 os x k c,p)->xR (ns.map loc) k v:=by
 intro os;induction os with
 |nil=>intro ns x k _ h;simp[gg,qn]at h
 |cons o r ih=>
  intro ns x k hg hs hp;cases ns with
  |nil=>simp[dr]at hg
  |cons n ns=>
   simp only[dr]at hg;split at hg
   case h_2=>cases hg
   rename_i oc hob;split at hg
   case h_2=>cases hg
   rename_i x0 y0 h1 h2;cases hg;cases k with
   |succ k=>
    have hs':gg cv st.aC r ns k c=true:=by simpa[gg,qn,rY]using hs
    have hp':∀p∈o6 r y0 k c,p:=by cases o <;> cases c <;> simpa[o6]using hp
    obtain⟨l,h3,h4⟩:=ih h2 hs' hp';exact⟨l,by simpa using h3,h4⟩
   |zero=>
    refine⟨loc n,by simp,?_⟩;cases o with
    |box T cls=>
     cases c <;> simp[gg,qn,rY]at hs;rename_i m off;cases off with
     |succ off=>simp at hs
     |zero=>
      have hs:n=m:=by simpa using hs
      subst hs;cases oc <;> simp only[fK,reduceCtorEq]at h1;obtain⟨b,k1,k2⟩:=hc.2 _ _ hob;have k1:(loc n).v=_:=k1;rw[k2,k1];rfl
    |row kp t=>
     cases c <;> simp[gg,qn,rY]at hs
     ·rename_i t' xs m
      obtain⟨_,hs,hb,hk⟩:=hs;subst hs;simp only[o6]at hp;obtain⟨e,he⟩:=Er hb hp;subst e;rw[hob]at hk;cases oc <;> simp at hk;rename_i t2 ys;cases cv <;> simp only[fK,reduceCtorEq]at h1;obtain⟨e2,h3⟩:=lh h1;subst e2;simp only at h3 he;subst h3;subst he;have hv:=(hc.2.2 _ hob).2 rfl;rcases(g.obj n _ hob).2 with⟨_,⟨a,ha⟩,_⟩|⟨b,vs,T,cap,ha,_⟩ <;> (rw[hv];show(loc n).v=rZ (loc n).v;rw[show(loc n).v=_ from ha];rfl)
     ·rename_i m
      obtain⟨hs,hk⟩:=hs;subst hs;rw[hob]at hk;cases oc <;> simp at hk;rw[hc.2 _ _ hob];rcases(g.obj n _ hob).2 with⟨_,⟨a,ha⟩,_⟩|⟨b,vs,T,cap,ha,_⟩ <;> rw[show(aB O st loc w).loc n=loc n from rfl,show(loc n).v=_ from ha] <;> rfl
    |tok t=>
     cases c <;> simp[gg,qn,rY]at hs;rename_i t' xs m;obtain⟨hs,hb⟩:=hs;subst hs;simp only[o6]at hp;obtain⟨e,he⟩:=Er hb hp;subst e;cases oc <;> simp only[fK,reduceCtorEq]at h1;obtain⟨e2,h3⟩:=lh h1;subst e2;simp only at h3 he;subst h3;subst he;have hv:=(hc.2.2 _ hob).2 rfl;rcases(g.obj n _ hob).2 with⟨_,⟨a,ha⟩,_⟩|⟨b,vs,T,cap,ha,_⟩ <;> (rw[hv];show(loc n).v=rZ (loc n).v;rw[show(loc n).v=_ from ha];rfl)
    |ext k t=>
     cases k with
     |zero=>
      cases c <;> simp[gg,qn,rY]at hs;rename_i m p;cases p <;> simp at hs;subst hs;cases oc <;> simp only[fK,reduceCtorEq]at h1;split at h1
      case h_2=>cases h1
      rename_i hk;have hk:=ah hk;subst hk;obtain⟨hs',hl⟩:=hc.2 _ _ hob;rw[show(loc n).v=_ from hl];rfl
     |succ k=>
      cases c <;> simp[gg,qn,rY]at hs;subst hs;cases oc <;> simp only[fK,reduceCtorEq]at h1;split at h1
      case h_2=>cases h1
      rename_i hk;have hk:=ah hk;have hgx:=(g.obj n _ hob).2;have hv:∃u,(loc n).v=u/\rZ u=u:=by
       subst hk;cases k with
       |zero=>obtain⟨e,_,b,es,dH,hm⟩:=X.map.1 hgx;exact⟨_,hm.lv,rfl⟩
       |succ k=>obtain⟨a,ha⟩:=X.ptr (by omega) hgx;exact⟨_,ha,rfl⟩
      obtain⟨u,hu,hu2⟩:=hv;rw[hc.2 _ hob rfl,show(aB O st loc w).loc n=loc n from rfl,hu];exact hu2.symm
def Fm{cv:Bool}{aG:List Ob}{ν:List Nat}{x:PD aG}{O:aD}{st:St}{loc:Nat->Loc}{w:World}(g:Good eT X (aB O st loc w))(hx:dr cv st.aC aG ν aG ν=some x) :
  ∀{cls:List Cl} {cs:List C} {y:CD cls} {vs:List Value},kE cv st.aC aG ν cls cs=some y->dq eT (aB O st loc w) cs vs->(∀p∈ml aG x cls cs,p)->
   o7 eT (aB O st loc w) (xR (ν.map loc)) cls y vs:=by
 intro cls;induction cls with
 |nil=>
  intro cs y vs h hc _;cases cs with
  |nil=>cases hc;exact rfl
  |cons c cs=>simp[kE]at h
 |cons cl r ih=>
  intro cs y vs h hc hp;cases hc with
  |nil=>cases cl <;> simp[kE]at h
  |cons h1 h2 h3=>
   rename_i c v cs vs;cases cl with
   |d t=>
    simp only[kE]at h;split at h
    ·rename_i x0 y0 k1 k2
     cases h;exact⟨mf k1 h1,ih k2 h3 (fun p hp'=>hp p (by simpa[ml]using hp'))⟩
    ·cases h
   |obj k=>
    simp only[kE]at h;split at h
    ·rename_i hs
     simp only[ml]at hp;obtain⟨p1,p2⟩:=fy.1 hp;exact⟨tp g h1 hx hs p1,ih h h3 p2⟩
    ·cases h
   |eS=>
    simp only[kE]at h;split at h
    ·exact⟨h1,ih h h3 (fun p hp'=>hp p (by simpa[ml]using hp'))⟩
    ·cases h
def yJ{cv:Bool}{aG:List Ob}{ν:List Nat}{x:PD aG}{O:aD}{st:St}{loc:Nat->Loc}{w:World}(g:Good eT X (aB O st loc w))(hx:dr cv st.aC aG ν aG ν=some x) :
  ∀{cls:List Cl} {cs:List bT} {y:CD cls} {vs:List Value},iK cv st.aC aG ν cls cs=some y->bW eT (aB O st loc w) cs vs->(∀p∈jc aG x cls cs,p)->
   o7 eT (aB O st loc w) (xR (ν.map loc)) cls y vs:=by
 intro cls;induction cls with
 |nil=>
  intro cs y vs h hc _;cases cs with
  |nil=>cases hc;exact rfl
  |cons c cs=>simp[iK]at h
 |cons cl r ih=>
  intro cs y vs h hc hp;cases hc with
  |nil=>cases cl <;> simp[iK]at h
  |cons h1 h3=>
   rename_i c v cs vs;cases cl with
   |d t=>
    simp only[iK]at h;split at h
    ·rename_i x0 y0 k1 k2
     cases h;exact⟨iI k1 h1,ih k2 h3 (fun p hp'=>hp p (by simpa[jc]using hp'))⟩
    ·cases h
   |obj k=>
    simp only[iK]at h;split at h
    ·split at h
     ·rename_i hs
      simp only[jc]at hp;obtain⟨p1,p2⟩:=fy.1 hp;exact⟨tp g h1 hx hs p1,ih h h3 p2⟩
     ·cases h
    ·cases h
   |eS=>
    simp only[iK]at h;split at h
    ·exact⟨h1,ih h h3 (fun p hp'=>hp p (by simpa[jc]using hp'))⟩
    ·cases h
def lO{cv:Bool}{aG:List Ob}{ν:List Nat}{x:PD aG}{O:aD}{st:St}{loc:Nat->Loc}{w:World}(g:Good eT X (aB O st loc w))(hx:dr cv st.aC aG ν aG ν=some x) :
  ∀{os:List Ob} {ns:List Nat} {y:PD os},dr cv st.aC aG ν os ns=some y->(∀p∈fk aG x st.aC os ns,p)->
   Fl eT X (aB O st loc w) (xR (ν.map loc)) os y (ns.map loc):=by
 intro os;induction os with
 |nil=>
  intro ns y h _;cases ns with
  |nil=>exact rfl
  |cons n ns=>simp[dr]at h
 |cons o r ih=>
  intro ns y h hp;cases ns with
  |nil=>simp[dr]at h
  |cons n ns=>
   simp only[dr]at h;split at h
   case h_2=>cases h
   rename_i oc hob;split at h
   case h_2=>cases h
   rename_i x0 y0 h1 h2;cases h;have hor:=(g.obj n oc hob).2;have hrest:∀p∈fk aG x st.aC r ns,p:=by
    cases o <;> simp only[fk]at hp
    ·exact(fy.1 hp).2
    ·exact hp
    ·exact hp
    ·exact hp
   refine⟨?_,ih h2 hrest⟩;show Hg eT X _ _ o x0 (loc n);cases o with
   |box T cls=>
    cases oc <;> simp only[fK,reduceCtorEq]at h1;rename_i T' cs;split at h1
    case h_2=>cases h1
    rename_i hT;have hT:=ah hT;subst hT;obtain⟨b,vs,k1,k2,k3,k4⟩:=hor;simp only[fk,hob]at hp;exact⟨b,vs,k1,k2,k3,Fm g hx h1 k4 (fy.1 hp).1,fun v hv=>dq.Bb k4 v hv⟩
   |row kp t=>
    cases oc <;> simp only[fK,reduceCtorEq]at h1
    ·obtain⟨e,h3⟩:=lh h1
     subst e;simp only at h3;subst h3;exact hor
    ·split at h1
     ·obtain⟨e,h3⟩:=lh h1
      subst e;simp only at h3;subst h3;exact hor
     ·cases h1
   |tok t=>
    cases oc <;> simp only[fK,reduceCtorEq]at h1;obtain⟨e,h3⟩:=lh h1;subst e;simp only at h3;subst h3;exact hor
   |ext k t=>
    cases oc <;> simp only[fK,reduceCtorEq]at h1;split at h1
    case h_2=>cases h1
    rename_i hk;have hk:=ah hk;subst hk;obtain⟨e,h3⟩:=BB h1;subst e;simp only at h3;subst h3;exact hor
end
def fH:List Cl->Bool
 |[]=>true
 |.d t :: r=>t.flat&&fH r
 |_ :: r=>fH r
def eu:List Ob->Bool
 |[]=>true
 |.box _ cls :: r=>fH cls&&eu r
 |.row _ t :: r=>t.flat&&eu r
 |.tok t :: r=>t.flat&&eu r
 |.ext _ _ :: r=>eu r
def oL:List Ob->Bool
 |[]=>true
 |.tok _ :: _=>false
 |_ :: r=>oL r
section
variable{eT:TypeId}{X:Ext}
def VR.to{t:Ty}{x:D t}{S S':aY}{v:Value}(hw:S'.w=S.w)(hA:t.flat=true\/∀b o,S'.A b o->S.A b o)(h:VR eT t x S.A S.w v):VR eT t x S'.A S'.w v:=by
 rcases hA with hA|hA
 ·exact VR.of_flat hA h
 ·rw[hw];exact VR.Fk h fun b o k h'=>k (hA b o h')
def Laid(eT:TypeId)(S:aY):(os:List Ob)->PD os->List Nat->List Loc->Prop
 |[],_,ns,ls=>ns=[]/\ls=[]
 |o :: r,x,n :: ns,l :: ls=>(S.loc n=l/\n<S.next/\(match o,x.1 with
  |.box _ _,_=>∃b,l.v=.pointer (some ⟨b,0,none⟩)
  |.tok t,y=>VR eT (.slice t) y S.A S.w l.v/\∀ys,S.ob n=some (.tok t ys)->ys=y
  |.row _ _,_=>∃a k c,l.v=.slice a k c
  |.ext 0 _,_=>∃v,∃hs:List Value,l.v=.tuple (v :: hs).toArray
  |.ext (_+1) _,_=>rZ l.v=l.v))/\Laid eT S r x.2 ns ls
 |_,_,_,_=>False
def r4{S:aY}:∀{os:List Ob} {x:PD os} {ns:List Nat} {ls:List Loc} {k:Nat} {v:Value},Laid eT S os x ns ls->xR ls k v->CR eT S (eB os x ns k) v:=by
 intro os;induction os with
 |nil=>intro x ns ls k v h hr;exact trivial
 |cons o r ih=>
  intro x ns ls k v h hr
  match ns,ls,h with
  |n :: ns,l :: ls,⟨⟨h1,h2,h3⟩,h4⟩=>
   obtain⟨l0,hl,hv⟩:=hr;cases k with
   |succ k=>exact ih h4 ⟨l0,by simpa using hl,hv⟩
   |zero=>
    simp at hl;subst hl;subst hv;show CR eT S (Mb o x.1 n) _;cases o with
    |box T cls=>
     obtain⟨b,hb⟩:=h3;rw[hb];exact⟨h2,fun T cs _=>⟨b,by rw[h1];exact hb,rfl⟩⟩
    |row kp t=>
     obtain⟨a,k,c,hb⟩:=h3;rw[hb];exact⟨h2,fun t xs _=>by rw[h1,hb];rfl⟩
    |tok t=>
     obtain⟨a,c,hb,_⟩:=px h3.1;rw[show rZ l.v=l.v by rw[hb];rfl];exact⟨h3.1,h2,fun ys hy=>by rw[h3.2 ys hy];exact⟨ai _,fun _=>by rw[h1]⟩⟩
    |ext k t=>
     cases k with
     |zero=>
      obtain⟨v,hs,hb⟩:=h3;rw[hb];exact⟨h2,fun t x _=>⟨hs,by rw[h1,hb];rfl⟩⟩
     |succ k=>
      rw[show rZ l.v=l.v from h3];exact⟨h2,fun oc _ _=>by rw[h1]⟩
def Jq{S S':aY}{F:Nat->Value->Prop}{f:Nat->C}(hw:S'.w=S.w)(hF:∀k v,F k v->CR eT S' (f k) v):∀{cls:List Cl} {x:CD cls} {vs:List Value},
  (fH cls=true\/∀b o,S'.A b o->S.A b o)->o7 eT S F cls x vs->(∀v∈vs,v.oneCell'=true)->dq eT S' (Bz f cls x) vs:=by
 intro cls;induction cls with
 |nil=>intro x vs _ h _;rw[show vs=[]from h];exact .nil
 |cons cl r ih=>
  intro x vs hA h h1;cases vs with
  |nil=>cases cl <;> exact h.elim
  |cons v vs=>
   have hr:fH r=true\/∀b o,S'.A b o->S.A b o:=by
    rcases hA with hA|hA
    ·left;cases cl <;> simp[fH]at hA <;> first|exact hA.2|exact hA
    ·exact .inr hA
   cases cl with
   |d t=>
    refine .cons (VR.to hw ?_ h.1) (h1 v (by simp)) (ih hr h.2 fun u hu=>h1 u (by simp[hu]));rcases hA with hA|hA
    ·left;simp[fH]at hA;exact hA.1
    ·exact .inr hA
   |obj k=>exact .cons (hF k v h.1) (h1 v (by simp)) (ih hr h.2 fun u hu=>h1 u (by simp[hu]))
   |eS=>exact .cons h.1 (h1 v (by simp)) (ih hr h.2 fun u hu=>h1 u (by simp[hu]))
def BC{S S':aY}{F:Nat->Value->Prop}{f:Nat->C}(hw:S'.w=S.w)(hF:∀k v,F k v->CR eT S' (f k) v):∀{cls:List Cl} {x:CD cls} {vs:List Value},
  (fH cls=true\/∀b o,S'.A b o->S.A b o)->o7 eT S F cls x vs->bW eT S' (rW f cls x) vs:=by
 intro cls;induction cls with
 |nil=>intro x vs _ h;rw[show vs=[]from h];exact .nil
 |cons cl r ih=>
  intro x vs hA h;cases vs with
  |nil=>cases cl <;> exact h.elim
  |cons v vs=>
   have hr:fH r=true\/∀b o,S'.A b o->S.A b o:=by
    rcases hA with hA|hA
    ·left;cases cl <;> simp[fH]at hA <;> first|exact hA.2|exact hA
    ·exact .inr hA
   cases cl with
   |d t=>
    refine .cons (show VR eT t x.1 S'.A S'.w v from VR.to hw ?_ h.1) (ih hr h.2);rcases hA with hA|hA
    ·left;simp[fH]at hA;exact hA.1
    ·exact .inr hA
   |obj k=>exact .cons (hF k v h.1) (ih hr h.2)
   |eS=>exact .cons h.1 (ih hr h.2)
def gL.to{S S':aY}{t:Ty}{xs:List (D t)}{vs:Array Value}(hw:S'.w=S.w)(hA:t.flat=true\/∀b o,S'.A b o->S.A b o)(h:gL eT S t xs vs):gL eT S' t xs vs:=by
 intro i y hy;obtain⟨us,h1,h2⟩:=h i y hy;refine⟨us,?_,h2⟩;rcases hA with hA|hA
 ·exact h1.of_flat hA
 ·rw[hw];exact h1.frame fun b o v k h'=>⟨h',fun h''=>k (hA b o h'')⟩
def u9.to{S S':aY}{t:Ty}{xs:List (D t)}{l:Loc}(hw:S'.w=S.w)(hA:t.flat=true\/∀b o,S'.A b o->S.A b o)(h:OR eT X S l (.aM t xs)):OR eT X S' l (.aM t xs):=by
 rcases h with h|⟨b,vs,T,cap,h1,h2,h3,h4,h5,h6,h7⟩
 ·exact .inl h
 ·exact .inr ⟨b,vs,T,cap,h1,h2,by rw[hw];exact h3,h4,h5,h6,h7.to hw hA⟩
def oa(o:Ob):Bool:=eu [o]
def Md{S S':aY}{F:Nat->Value->Prop}{f:Nat->C}(hw:S'.w=S.w)(hF:∀k v,F k v->CR eT S' (f k) v){o:Ob}{x:OD o}{l:Loc}
  (hA:oa o=true\/∀b o,S'.A b o->S.A b o)(h:Hg eT X S F o x l):OR eT X S' l (mj f o x):=by
 cases o with
 |box T cls=>
  obtain⟨b,vs,h1,h2,h3,h4,h5⟩:=h;refine⟨b,vs,h1,h2,by rw[hw];exact h3,Jq hw hF ?_ h4 h5⟩;rcases hA with hA|hA
  ·left;simpa[oa,eu]using hA
  ·exact .inr hA
 |row kp t=>
  refine u9.to hw ?_ h;rcases hA with hA|hA
  ·left;simpa[oa,eu]using hA
  ·exact .inr hA
 |tok t=>
  refine u9.to (X:=X) (l:=l) hw ?_ h;rcases hA with hA|hA
  ·left;simpa[oa,eu]using hA
  ·exact .inr hA
 |ext k t=>show X.rel _ _ _ _ _;rw[hw];exact h
def Jr{S:aY}{t:Ty}{xs:List (D t)}{l:Loc}(h:OR eT X S l (.tok t xs))(hA:∀b∈l.bs,∀off,off<xs.length*t.size->¬S.A b off):VR eT (.slice t) xs S.A S.w l.v:=by
 rcases h with⟨rfl,⟨a,ha⟩,_⟩|⟨b,vs,T,cap,h1,h2,h3,h4,h5,h6,he⟩
 ·exact VR.bQ rfl ⟨_,rfl,by simp,.inl ⟨rfl,a,0,ha⟩⟩
 ·refine VR.bQ rfl ⟨_,rfl,h6,.inr ⟨b,0,cap,h1,h5,fun i y hy =>?_⟩⟩
  obtain⟨us,r1,r2⟩:=he i y hy;refine⟨us,r1,fun j u hj=>⟨?_,?_⟩⟩
  ·rw[ay,cell_of_row S.w b _ vs T (0,0) h3];exact r2 j u hj
  ·rw[ay]
   refine hA b (by rw[h2];simp) _ ?_;have hi:=aW hy;have hjl:=aW hj;rw[r1.length]at hjl;have:(i+1)*t.size<=xs.length*t.size:=cu _ hi;rw[b9]at this;omega
def dB:List Nat->List Loc->(Nat->Loc)->Nat->Loc
 |n :: ns,l :: ls,d,m=>if n=m then l else dB ns ls d m
 |_,_,d,m=>d m
def iz:∀{ns:List Nat} {ls:List Loc} {d:Nat->Loc} {m:Nat},m∉ns->dB ns ls d m=d m
 |[],_,_,_,_=>by cases ‹List Loc› <;> rfl
 |n :: ns,[],_,_,_=>rfl
 |n :: ns,l :: ls,d,m,h=>by
  simp only[ag,not_or]at h;simp only[dB];rw[if_neg (fun e=>h.1 e.symm)];exact iz h.2
def vb{n:Nat}{l:List Nat}:jA n l=true↔n∈l:=by
 refine⟨qo,fun h =>?_⟩;induction l with
 |nil=>simp at h
 |cons m r ih=>
  simp only[jA];split
  ·rfl
  ·rename_i hb
   rcases ag.1 h with h|h
   ·subst h;rw[bh]at hb;cases hb
   ·exact ih h
def kG{n:Nat}{r:List Nat}(h:nodupB (n :: r)=true):n∉r/\nodupB r=true:=by
 simp only[nodupB,ae,bd]at h;exact⟨fun hm=>by rw[vb.2 hm]at h;exact absurd h.1 (by decide),h.2⟩
def fV:∀{ns:List Nat} {ls:List Loc} {d:Nat->Loc} {i n:Nat} {l:Loc},nodupB ns=true->ns[i]?=some n->ls[i]?=some l->dB ns ls d n=l
 |[],_,_,_,_,_,_,h,_=>by simp at h
 |n :: ns,[],_,_,_,_,_,_,h=>by simp at h
 |n :: ns,l :: ls,d,0,m,k,_,h1,h2=>by simp at h1 h2;subst h1;subst h2;simp[dB]
 |n :: ns,l :: ls,d,i+1,m,k,hn,h1,h2=>by
  obtain⟨hm,hn⟩:=kG hn;simp at h1 h2;simp only[dB];rw[if_neg (fun e=>hm (by rw[e];exact aw h1))];exact fV hn h1 h2
def lP{cv:Bool}{aC:List (Nat×OC)}{aG:List Ob}{ν:List Nat}{f:Nat->C}{S:aY}{F:Nat->Value->Prop}{loc:Nat->Loc}:∀{os:List Ob} {x:PD os} {ns ms:List Nat} {m:Nat} {oc:OC},dr cv aC aG ν os ns=some x->Fl eT X S F os x (ns.map loc)->ns.length=ms.length->
  look (ib f os x ms) m=some oc->∃(i n:Nat) (o:Ob) (y:OD o) (oc0:OC),ns[i]?=some n/\ms[i]?=some m/\os[i]?=some o/\look aC n=some oc0/\fK cv aC aG ν o oc0=some y/\oc=mj f o y/\Hg eT X S F o y (loc n):=by
 intro os;induction os with
 |nil=>intro x ns ms m oc _ _ _ h;simp[ib,look]at h
 |cons o r ih=>
  intro x ns ms m oc hg hR hl h;cases ns with
  |nil=>simp[dr]at hg
  |cons n ns=>
   cases ms with
   |nil=>simp at hl
   |cons k ms=>
    simp only[dr]at hg;split at hg
    case h_2=>cases hg
    rename_i oc0 hob;split at hg
    case h_2=>cases hg
    rename_i x0 y0 h1 h2;cases hg;simp only[ib,bM]at h;split at h
    ·rename_i e
     cases h;exact⟨0,n,o,x0,oc0,rfl,by simp[e],rfl,hob,h1,rfl,hR.1⟩
    ·obtain⟨i,n',o',y',oc',k1,k2,k3,k4⟩:=ih h2 hR.2 (by simpa using hl) h
     exact⟨i+1,n',o',y',oc',by simpa using k1,by simpa using k2,by simpa using k3,k4⟩
def tq{cv:Bool}{aC:List (Nat×OC)}{aG:List Ob}{ν:List Nat}{f:Nat->C}{o:Ob}{y:OD o}{oc:OC}(h:fK cv aC aG ν o oc=some y):(mj f o y).lo=oc.lo\/cv=true:=by
 cases o <;> cases oc <;> simp only[fK,reduceCtorEq]at h
 ·exact .inl rfl
 ·exact .inl rfl
 ·split at h
  ·exact .inr rfl
  ·cases h
 ·obtain⟨e,h3⟩:=lh h
  subst e;simp only at h3;subst h3;exact .inl rfl
 ·exact .inl rfl
def iA{cv:Bool}{aC:List (Nat×OC)}{aG:List Ob}{ν:List Nat}{o:Ob}{y:OD o}{oc:OC}(h:fK cv aC aG ν o oc=some y)(f:Nat->C):(∀T cls,o=.box T cls->∃cs,oc=.cells T cs)/\
  (∀k t,o=.ext k t->∃x,oc=.ext k t x)/\(∀k t,o=.row k t->cv=false->∃xs,oc=.aM t xs)/\((∀t,o≠.tok t)->cv=false->∀t xs,oc≠.tok t xs):=by
 refine⟨fun T cls e =>?_,fun k t e =>?_,fun k t e e2 =>?_,fun h1 h2 t xs e =>?_⟩
 ·subst e
  cases oc <;> simp only[fK,reduceCtorEq]at h;split at h
  ·rename_i hT;rw[ah hT];exact⟨_,rfl⟩
  ·cases h
 ·subst e
  cases oc <;> simp only[fK,reduceCtorEq]at h;split at h
  ·rename_i hT
   obtain⟨e,_⟩:=BB h;subst e;rw[ah hT];exact⟨_,rfl⟩
  ·cases h
 ·subst e;subst e2
  cases oc <;> simp only[fK,reduceCtorEq]at h
  ·obtain⟨e,_⟩:=lh h
   subst e;exact⟨_,rfl⟩
 ·subst e;subst h2
  cases o <;> simp only[fK,reduceCtorEq]at h;exact h1 _ rfl
def kd{cv:Bool}{aC:List (Nat×OC)}{aG:List Ob}{ν:List Nat}:∀{os:List Ob} {ns:List Nat} {x:PD os},dr cv aC aG ν os ns=some x->os.length=ns.length:=by
 intro os;induction os with
 |nil=>intro ns x h;cases ns with|nil=>rfl|cons=>simp[dr]at h
 |cons o r ih=>
  intro ns x h;cases ns with
  |nil=>simp[dr]at h
  |cons n ns=>
   simp only[dr]at h;split at h
   case h_2=>cases h
   split at h
   case h_2=>cases h
   rename_i h2;simp[ih h2]
def lq{f:Nat->C}:∀{os:List Ob} {x:PD os} {ms:List Nat} {m:Nat},os.length=ms.length->m∈ms->∃oc,look (ib f os x ms) m=some oc:=by
 intro os;induction os with
 |nil=>intro x ms m h hm;cases ms with|nil=>simp at hm|cons=>simp at h
 |cons o r ih=>
  intro x ms m h hm;cases ms with
  |nil=>simp at h
  |cons k ms=>
   simp only[ib,bM];by_cases e:k=m
   ·exact⟨_,by rw[if_pos e]⟩
   ·rw[if_neg e]
    rcases ag.1 hm with hm|hm
    ·exact(e hm.symm).elim
    ·exact ih (by simpa using h) hm
def mS:∀{l:List Nat} {i j n:Nat},nodupB l=true->l[i]?=some n->l[j]?=some n->i=j
 |[],_,_,_,_,h,_=>by simp at h
 |m :: r,0,0,_,_,_,_=>rfl
 |m :: r,0,j+1,n,hn,h1,h2=>by
  simp at h1 h2;subst h1;exact((kG hn).1 (aw h2)).elim
 |m :: r,i+1,0,n,hn,h1,h2=>by
  simp at h1 h2;subst h2;exact((kG hn).1 (aw h1)).elim
 |m :: r,i+1,j+1,n,hn,h1,h2=>by
  simp at h1 h2;rw[mS (kG hn).2 h1 h2]
def r5{a:Ob}{r:List Ob}(h:eu (a :: r)=true):oa a=true/\eu r=true:=by
 cases a <;> simp[eu,oa]at h ⊢ <;> exact h
def ub:∀{l:List Ob} {i:Nat} {o:Ob},eu l=true->l[i]?=some o->oa o=true
 |[],_,_,_,h=>by simp at h
 |a :: r,0,o,hfl,h=>by simp at h;subst h;exact(r5 hfl).1
 |a :: r,i+1,o,hfl,h=>ub (r5 hfl).2 (by simpa using h)
def K7{S S2:aY}{F:Nat->Value->Prop}{f:Nat->C}{loc:Nat->Loc}(hNA:∀m t ys,S2.ob m=some (.tok t ys)->∀b∈(S2.loc m).bs,∀off,off<ys.length*t.size->¬S2.A b off)(hw:S2.w=S.w) :
  ∀{os:List Ob} {x:PD os} {ns ms:List Nat},(eu os=true\/∀b o,S2.A b o->S.A b o)->Fl eT X S F os x (ns.map loc)->nodupB ms=true->ns.length=ms.length->(∀n∈ms,S2.ob n=look (ib f os x ms) n)->
   (∀(i n m:Nat),ns[i]?=some n->ms[i]?=some m->S2.loc m=loc n/\m<S2.next)->Laid eT S2 os x ms (ns.map loc):=by
 intro os;induction os with
 |nil=>
  intro x ns ms _ h _ hl _ _;have h:ns.map loc=[]:=h;cases ns with
  |nil=>cases ms with
   |nil=>exact⟨rfl,rfl⟩
   |cons=>simp at hl
  |cons=>simp at h
 |cons o r ih=>
  intro x ns ms hA h hnd hl hob hloc;cases ns with
  |nil=>exact h.elim
  |cons n ns=>
   cases ms with
   |nil=>simp at hl
   |cons m ms=>
    obtain⟨hm,hnd'⟩:=kG hnd;obtain⟨h1,h2⟩:=hloc 0 n m rfl rfl;have hA':eu r=true\/∀b o,S2.A b o->S.A b o:=by
     rcases hA with hA|hA
     ·left;cases o <;> simp[eu]at hA <;> first|exact hA.2|exact hA
     ·exact .inr hA
    refine⟨⟨h1,h2,?_⟩,ih hA' h.2 hnd' (by simpa using hl) (fun k hk =>?_) (fun i a b ha hb=>hloc (i+1) a b (by simpa using ha) (by simpa using hb))⟩
    ·cases o with
     |box T cls=>obtain⟨b,vs,k1,_⟩:=h.1;exact⟨b,k1⟩
     |row kp t=>rcases h.1 with⟨_,⟨a,ha⟩,_⟩|⟨b,vs,T,cap,ha,_⟩ <;> exact⟨_,_,_,ha⟩
     |tok t=>
      have hobm:S2.ob m=some (.tok t x.1):=by rw[hob m (by simp)];simp[ib,bM,mj]
      refine⟨?_,fun ys hy=>by rw[hobm]at hy;cases hy;rfl⟩;refine Jr (X:=X) (u9.to (X:=X) (l:=loc n) hw ?_ h.1) fun b hb off ho=>hNA m t x.1 hobm b (by rw[h1];exact hb) off ho
      rcases hA with hA|hA
      ·left;simp[eu]at hA;exact hA.1
      ·exact .inr hA
     |ext k t=>
      cases k with
      |zero=>
       have hd:=X.deep.1 h.1;obtain⟨e,s,rfl,_⟩:=oC hd;obtain⟨_,_,v,hs,hv,_⟩:=hd;exact⟨v,hs,hv⟩
      |succ k=>
       show rZ (loc n).v=(loc n).v;cases k with
       |zero=>obtain⟨e,_,b,es,dH,hm⟩:=X.map.1 h.1;rw[hm.lv];rfl
       |succ k=>obtain⟨a,ha⟩:=X.ptr (by omega) h.1;rw[ha];rfl
    ·rw[hob k (by simp[hk])]
     simp only[ib,bM];rw[if_neg (fun e=>hm (by rw[e];exact hk))]
def AG{cv:Bool}{aG:List Ob}{ν:List Nat}{x:PD aG}{O:aD}{st:St}{loc:Nat->Loc}{w:World}(g:Good eT X (aB O st loc w))(hx:dr cv st.aC aG ν aG ν=some x)
  (hp:∀p∈fk aG x st.aC aG ν,p)(hnd:nodupB ν=true)
  {O2:aD}{ν2:List Nat}{rest:List (Nat×OC)}{locR:Nat->Loc}{st2:St}(hnd2:nodupB ν2=true)(hlen:ν.length=ν2.length)
  (hobjs:st2.aC=ib (eB aG x ν2) aG x ν2++rest)(hlt:∀n∈ν2,n<st2.next)
  (hO2:∀n∈ν,∀b∈(loc n).bs,∀off,¬O2 b off)
  (hD:∀n∈ν,∀b∈(loc n).bs,∀m oc,look rest m=some oc->m∉ν2->b∉(locR m).bs)
  (hR:∀m oc,look rest m=some oc->m∉ν2->m<st2.next/\OR eT X (aB O2 st2 (dB ν2 (ν.map loc) locR) w) (locR m) oc)
  (hR2:∀m m' oc oc' b,look rest m=some oc->look rest m'=some oc'->m∉ν2->m'∉ν2->b∈(locR m).bs->b∈(locR m').bs->m=m')
  (hR3:∀m oc b off,look rest m=some oc->m∉ν2->b∈(locR m).bs->¬O2 b off)
  (hA:eu aG=true\/∀b o,(aB O2 st2 (dB ν2 (ν.map loc) locR) w).A b o->(aB O st loc w).A b o)
  (hGl:∀b∈X.yu,¬(aB O2 st2 (dB ν2 (ν.map loc) locR) w).owns b) :
  Good eT X (aB O2 st2 (dB ν2 (ν.map loc) locR) w)/\Laid eT (aB O2 st2 (dB ν2 (ν.map loc) locR) w) aG x ν2 (ν.map loc):=by
 have hobs:=lO (X:=X) g hx hx hp;have hol:=kd hx;generalize hf:eB aG x ν2=f at hobjs;have hob:∀m oc,(aB O2 st2 (dB ν2 (ν.map loc) locR) w).ob m=some oc->
   (∃(i n:Nat) (o:Ob) (y:OD o) (oc0:OC),ν[i]?=some n/\ν2[i]?=some m/\look st.aC n=some oc0/\fK cv st.aC aG ν o oc0=some y/\oc=mj f o y/\Hg eT X (aB O st loc w) (xR (ν.map loc)) o y (loc n)/\
    dB ν2 (ν.map loc) locR m=loc n/\aG[i]?=some o)\/
   (look rest m=some oc/\m∉ν2/\dB ν2 (ν.map loc) locR m=locR m):=by
  intro m oc h;simp only[aB,hobjs]at h;rw[cQ]at h;split at h
  ·rename_i oc' h'
   cases h;obtain⟨i,n,o,y,oc0,k1,k2,k3,k4,k5,k6,k7⟩:=lP hx hobs hlen h';exact .inl ⟨i,n,o,y,oc0,k1,k2,k4,k5,k6,k7,fV hnd2 k2 (by simp[k1]),k3⟩
  ·rename_i h'
   have:m∉ν2:=fun hm=>by
    obtain⟨oc1,h1⟩:=lq (f:=f) (x:=x) (by omega) hm;rw[h1]at h';cases h'
   exact .inr ⟨h,this,iz this⟩
 have hap:∀m m' oc oc' b,(aB O2 st2 (dB ν2 (ν.map loc) locR) w).ob m=some oc->(aB O2 st2 (dB ν2 (ν.map loc) locR) w).ob m'=some oc'->
   b∈(dB ν2 (ν.map loc) locR m).bs->b∈(dB ν2 (ν.map loc) locR m').bs->m=m':=by
  intro m m' oc oc' b h1 h2 h3 h4;rcases hob m oc h1 with⟨i,n,o,y,oc0,k1,k2,k4,_,_,_,k8,_⟩|⟨k1,k2,k3⟩ <;> rcases hob m' oc' h2 with⟨i',n',o',y',oc0',j1,j2,j4,_,_,_,j8,_⟩|⟨j1,j2,j3⟩
  ·rw[k8]at h3;rw[j8]at h4
   have e:=g.apart n n' oc0 oc0' b k4 j4 h3 h4;subst e;have:=mS hnd k1 j1;subst this;rw[k2]at j2;cases j2;rfl
  ·rw[k8]at h3;rw[j3]at h4
   exact(hD n (aw k1) b h3 m' oc' j1 j2 h4).elim
  ·rw[k3]at h3;rw[j8]at h4
   exact(hD n' (aw j1) b h4 m oc k1 k2 h3).elim
  ·rw[k3]at h3;rw[j3]at h4
   exact hR2 m m' oc oc' b k1 j1 k2 j2 h3 h4
 have hout:∀m oc b off,(aB O2 st2 (dB ν2 (ν.map loc) locR) w).ob m=some oc->b∈(dB ν2 (ν.map loc) locR m).bs->¬O2 b off:=by
  intro m oc b off h1 h2;rcases hob m oc h1 with⟨i,n,o,y,oc0,k1,k2,k4,_,_,_,k8,_⟩|⟨k1,k2,k3⟩
  ·rw[k8]at h2;exact hO2 n (aw k1) b h2 off
  ·rw[k3]at h2;exact hR3 m oc b off k1 k2 h2
 have hNA:∀m t ys,(aB O2 st2 (dB ν2 (ν.map loc) locR) w).ob m=some (.tok t ys)->∀b∈((aB O2 st2 (dB ν2 (ν.map loc) locR) w).loc m).bs,∀off,off<ys.length*t.size->¬(aB O2 st2 (dB ν2 (ν.map loc) locR) w).A b off:=by
  rintro m t ys h1 b hb off ho (h2|⟨m',oc',h2,h3,h4⟩)
  ·exact hout m _ b off h1 hb h2
  ·have:=hap m m' _ oc' b h1 h2 hb h3
   subst this;rw[h1]at h2;cases h2;simp only[OC.lo]at h4;omega
 have hlaid:Laid eT (aB O2 st2 (dB ν2 (ν.map loc) locR) w) aG x ν2 (ν.map loc):=by
  refine K7 (X:=X) (S:=aB O st loc w) (f:=f) hNA rfl hA hobs hnd2 hlen (fun n hn =>?_) (fun i n m h1 h2=>⟨fV hnd2 h2 (by simp[h1]),hlt m (aw h2)⟩);show look st2.aC n=_;rw[hobjs,cQ];obtain⟨oc1,h1⟩:=lq (f:=f) (x:=x) (by omega) hn;rw[h1]
 refine⟨⟨fun m oc h =>?_,fun m m' oc oc' b h1 h2 h3 h4=>hap m m' oc oc' b h1 h2 h3 h4,fun m oc b off h1 h2=>hout m oc b off h1 h2,g.gl.1,hGl⟩,hlaid⟩;rcases hob m oc h with⟨i,n,o,y,oc0,k1,k2,k4,k5,k6,k7,k8,k9⟩|⟨k1,k2,k3⟩
 ·refine⟨hlt m (aw k2),?_⟩
  show OR _ _ _ (dB ν2 (ν.map loc) locR m) oc;rw[k8,k6];refine Md (S:=aB O st loc w) (S':=aB O2 st2 (dB ν2 (ν.map loc) locR) w) rfl (fun k v hk=>by rw[<-hf];exact r4 hlaid hk) ?_ k7;rcases hA with hA|hA
  ·left
   exact ub hA k9
  ·exact .inr hA
 ·obtain⟨h1,h2⟩:=hR m oc k1 k2
  refine⟨h1,?_⟩;show OR _ _ _ (dB ν2 (ν.map loc) locR m) oc;rw[k3];exact h2
def upto:Nat->Nat->List Nat
 |_,0=>[]
 |k,m+1=>k :: upto (k+1) m
def Kv(aG:List Ob)(cls:List Cl)(vs:List bT)(aC:List (Nat×OC))(Nj:List (Nat×Nat)):Option (List Nat):=
 match He cls vs Nj with
 |some as1=>match tn aC 0 aG as1 with
  |some as2=>rX as2 0 aG.length
  |none=>none
 |none=>none
def ve:∀(m k i:Nat),i<m->(upto k m)[i]?=some (k+i)
 |m+1,k,0,_=>by simp[upto]
 |m+1,k,i+1,h=>by
  simp only[upto,List.getElem?_cons_succ];rw[ve m (k+1) i (by omega)];congr 1;omega
def qq:∀{m k n:Nat},n∈upto k m->k<=n/\n<k+m
 |0,k,n,h=>by simp[upto]at h
 |m+1,k,n,h=>by
  simp only[upto,ag]at h;rcases h with h|h
  ·omega
  ·have:=qq h;omega
def qt:∀(m k:Nat),(upto k m).length=m
 |0,_=>rfl
 |m+1,k=>by simp[upto,qt m]
def gQ:∀(m k:Nat),nodupB (upto k m)=true
 |0,_=>rfl
 |m+1,k=>by
  simp only[upto,nodupB,gQ m,kl,bd];rw[Bool.eq_false_iff];intro h;have:=qq (vb.1 h);omega
def fW{cv:Bool}{aC:List (Nat×OC)}{aG:List Ob}{ν:List Nat}:∀{os:List Ob} {ns:List Nat} {x:PD os} {n:Nat},dr cv aC aG ν os ns=some x->n∈ns->
  ∃o oc y,o∈os/\look aC n=some oc/\fK cv aC aG ν o oc=some y:=by
 intro os;induction os with
 |nil=>intro ns x n h hn;cases ns with|nil=>simp at hn|cons=>simp[dr]at h
 |cons o r ih=>
  intro ns x n h hn;cases ns with
  |nil=>simp at hn
  |cons k ns=>
   simp only[dr]at h;split at h
   case h_2=>cases h
   rename_i oc hob;split at h
   case h_2=>cases h
   rename_i x0 y0 h1 h2;rcases ag.1 hn with e|hn
   ·subst e;exact⟨o,oc,x0,by simp,hob,h1⟩
   ·obtain⟨o',oc',y',k1,k2⟩:=ih h2 hn
    exact⟨o',oc',y',by simp[k1],k2⟩
end
inductive Ex where
 |normal
 |exit (n:Nat)
 |ret
def AH:(cls:List Cl)->CD cls
 |[]=>()
 |.d t :: r=>(cE t,AH r)
 |.obj _ :: r=>AH r
 |.eS :: r=>AH r
def MH:(o:Ob)->OD o
 |.box _ cls=>AH cls
 |.row _ _=>[]
 |.tok _=>[]
 |.ext _ t=>cE t
def Fo:(os:List Ob)->PD os
 |[]=>()
 |o :: r=>(MH o,Fo r)
structure gp:Type 1 where
 X:Type
 inv:X->Prop
 dx:X->Nat
 bX:X->List (Nat×SV)
 aC:X->List (Nat×OC):=fun _=>[]
 keep:List Nat
 ey:List Nat:=[]
 jq:List Nat:=[]
 aG:List Ob:=[]
 refs:List (Nat×Nat):=[]
 pd:X->PD aG:=fun _=>Fo aG
@[reducible] def sI(x:Int):SV:=.s (.one (.d (.int .i64) x))
@[reducible] def sB(x:Bool):SV:=.s (.one (.d .bool x))
@[reducible] def sS(x:List UInt8):SV:=.s (.one (.d .str x))
@[reducible] def sD(t:Ty)(x:D t):SV:=.s (.one (.d t x))
abbrev eo:=List (Nat×(St->gp))
def qu:C->C->Prop
 |.lit b,.d .bool c=>b=c
 |.d t x,.d t' y=>match h:Ty.beq t t' with
  |true=>bR h x=y
  |false=>False
 |.app t xs n,.app t' ys m=>match h:Ty.beq (.slice t) (.slice t'),ab n m with
  |true,true=>bR h (a:=.slice t) (b:=.slice t') xs=ys
  |_,_=>False
 |a,b=>a=b
def jH:SV->SV->Prop
 |.s (.one a),.s (.one b)=>qu a b
 |a,b=>a=b
def r6:List C->List C->Prop
 |[],[]=>True
 |a :: Nj,b :: bs=>qu a b/\r6 Nj bs
 |_,_=>False
def jI:OC->OC->Prop
 |.cells T cs,.cells T' cs'=>match ab T T' with
  |true=>r6 cs cs'
  |false=>False
 |.aM t xs,.aM t' ys=>match h:Ty.beq (.slice t) (.slice t')with
  |true=>bR h (a:=.slice t) (b:=.slice t') xs=ys
  |false=>False
 |.arr t xs,.arr t' ys=>match h:Ty.beq (.slice t) (.slice t')with
  |true=>bR h (a:=.slice t) (b:=.slice t') xs=ys
  |false=>False
 |.tok t xs,.tok t' ys=>match h:Ty.beq (.slice t) (.slice t')with
  |true=>bR h (a:=.slice t) (b:=.slice t') xs=ys
  |false=>False
 |.ext k t x,.ext k' t' y=>match ab k k',h:Ty.beq t t' with
  |true,true=>bR h x=y
  |_,_=>False
 |.iter cs seen cl,.iter cs' seen' cl'=>r6 cs cs'/\seen=seen'/\cl=cl'
 |_,_=>False
def jd(st:St):List (Nat×SV)->Prop
 |[]=>True
 |(n,v) :: r=>match look st.env n with
  |some u=>jH u v/\jd st r
  |none=>False
def je(st:St):List (Nat×OC)->Prop
 |[]=>True
 |(n,v) :: r=>match look st.aC n with
  |some u=>jI u v/\je st r
  |none=>False
def ke(st:St):List Nat->List (Nat×SV)
 |[]=>[]
 |t :: r=>match look st.env t with
  |some v=>(t,v) :: ke st r
  |none=>ke st r
def fc(st:St):List Nat->List (Nat×OC)
 |[]=>[]
 |t :: r=>match look st.aC t with
  |some v=>(t,v) :: fc st r
  |none=>fc st r
def bJ(an:gp)(st:St)(x:an.X):St:=
 {env:=an.bX x++ke st an.keep,aC:=an.aC x++fc st an.ey,next:=st.next}
def db(l:List Oper):List Nat:=l.filterMap (·.dst)
def writes(anns:eo):Nat->Code->List Nat
 |_,.region _ ops _=>db ops.toList
 |k,.seq a b=>writes anns k a++writes anns k b
 |k,.cond _ a b=>writes anns k a++writes anns k b
 |_,.block id b=>writes anns id b
 |k,.loop b=>match look anns (k+200000)with
  |some _=>allM :: writes anns k b
  |none=>writes anns k b
 |_,_=>[]
def qv(n:Nat):List Nat->Bool
 |[]=>false
 |m :: r=>match ab m n with
  |true=>true
  |false=>qv n r
def oM(l:List Nat)(W:List Nat):Bool:=match l with
 |[]=>true
 |_ =>!(qv allM W)&&l.all fun n =>!(qv n W)
def fX(k:Nat):List Nat->Bool
 |[]=>true
 |n :: r=>aq n k&&fX k r
def lQ(k:Nat):C->Bool
 |.app _ _ n|.aM n|.kZ n|.eL n|.xd n _|.ref n _|.nU n|.iG n _ _ _|.lB n _ _ _=>aq n k
 |.fn _ caps=>fX k caps
 |_=>true
def lr(k:Nat):List C->Bool
 |[]=>true
 |c :: r=>lQ k c&&lr k r
def BD(k:Nat):bT->Bool
 |.one c=>lQ k c
 |.agg cs=>lr k cs
def fL(k:Nat):List (Nat×SV)->Bool
 |[]=>true
 |(_,.s v) :: r=>BD k v&&fL k r
 |(_,.jy _) :: _=>false
def Es(k:Nat):OC->Bool
 |.cells _ cs=>lr k cs
 |.iter cs _ _=>lr k cs
 |_=>true
def fD(k:Nat):List (Nat×OC)->Bool
 |[]=>true
 |(n,oc) :: r=>aq n k&&Es k oc&&fD k r
def jJ(env:List (Nat×SV)):List Nat->Bool
 |[]=>true
 |t :: r=>match look env t with
  |some _=>jJ env r
  |none=>false
def jK(W:List Nat):List (Nat×SV)->Bool
 |[]=>true
 |(n,_) :: r=>qv n W&&jK W r
def wA(env:List (Nat×SV)):List Nat->List Nat
 |[]=>[]
 |t :: r=>match look env t with
  |some (.s _)=>t :: wA env r
  |_=>wA env r
def mT(jq:List Nat):List (Nat×OC)->List Nat
 |[]=>[]
 |(n,_) :: r=>match qv n jq with
  |true=>mT jq r
  |false=>n :: mT jq r
def tt(st:St)(an:gp):gp:=
 {an with keep:=wA st.env an.keep,ey:=match an.ey with
  |[]=>mT an.jq st.aC
  |l=>l}
def lR(ty:Ty)(st:St)(t:Nat):D ty:=
 match look st.env t with
 |some (.s c)=>match nq ty c with
  |some x=>x
  |none=>cE ty
 |_=>cE ty
def dO(st:St)(t:Nat):Nat:=
 match look st.env t with
 |some (.s (.one (.aM n)))=>n
 |some (.s (.one (.kZ n)))=>n
 |some (.s (.one (.eL n)))=>n
 |some (.s (.one (.xd n _)))=>n
 |some (.s (.one (.ref n _)))=>n
 |some (.s (.one (.app _ _ n)))=>n
 |_=>0
def mG(st:St)(n k:Nat):Nat:=
 match look st.aC n with
 |some (.cells _ cs)=>match cs[k]? with
  |some (.aM m)=>m
  |some (.ref m _)=>m
  |some (.app _ _ m)=>m
  |some (.eL m)=>m
  |some (.xd m _)=>m
  |_=>0
 |_=>0
def K8(_:Nat)(_:St):Prop:=False
def il(an:gp)(st st':St):VC:=
 match jJ st'.env an.keep with
 |true =>.leaf (∃x',an.inv x'/\jd st' (an.bX x')/\je st' (an.aC x'++fc st an.ey))
 |false =>.ff
def Ky(st:St):List (Nat×Nat)->Option (List (Nat×Nat))
 |[]=>some []
 |(t,k) :: r=>match look st.env t,Ky st r with
  |some (.s (.one c)),some Nj=>match Ku c with
   |some n=>match look Nj k with
    |some _=>some Nj
    |none=>some ((k,n) :: Nj)
   |none=>none
  |_,_=>none
def r7(st:St)(an:gp):Option (List Nat):=
 match Ky st an.refs with
 |some as1=>match tn st.aC 0 an.aG as1 with
  |some as2=>rX as2 0 an.aG.length
  |none=>none
 |none=>none
def pG(st:St)(an:gp)(ν:List Nat):List (Nat×Nat)->Bool
 |[]=>true
 |(t,k) :: r=>(match look st.env t with
  |some (.s (.one c))=>gg false st.aC an.aG ν k c
  |_=>false)&&pG st an ν r
def tu(st:St)(an:gp)(y:PD an.aG):List (Nat×Nat)->List Prop
 |[]=>[]
 |(t,k) :: r=>(match look st.env t with
  |some (.s (.one c))=>o6 an.aG y k c
  |_=>[])++tu st an y r
def pH(an:gp)(y:PD an.aG)(us:List Nat):List (Nat×Nat)->List (Nat×SV)
 |[]=>[]
 |(t,k) :: r=>(t,.s (.one (eB an.aG y us k))) :: pH an y us r
def nF(an:gp)(st:St)(x:an.X):List (Nat×SV):=an.bX x++ke st an.keep
def iM(an:gp)(st:St)(x:an.X):List (Nat×OC):=an.aC x++fc st an.ey
def cX(an:gp)(st:St)(x:an.X):St:=
 {env:=pH an (an.pd x) (upto st.next an.aG.length) an.refs++nF an st x,
  aC:=ib (eB an.aG (an.pd x) (upto st.next an.aG.length)) an.aG (an.pd x) (upto st.next an.aG.length)++iM an st x,next:=st.next+an.aG.length}
def lu(ν:List Nat):List (Nat×OC)->Bool
 |[]=>true
 |(n,_) :: r =>!(jA n ν)&&lu ν r
def mU(keep:List Nat):List (Nat×Nat)->Bool
 |[]=>true
 |(t,_) :: r =>!(qv t keep)&&mU keep r
def kH(an:gp)(st:St)(W:List Nat)(x:an.X):Bool:=fL st.next (nF an st x)&&(fD st.next (iM an st x)&&(jK W (an.bX x)&&mU an.keep an.refs))
def BE(st:St)(an:gp):gp:=
 {an with keep:=(wA st.env an.keep).filter (fun t=>mU [t] an.refs),ey:=match an.ey with
  |[]=>mT (an.jq++(match r7 st an with|some l=>l|none=>[])) st.aC
  |l=>l}
def wB(an:gp)(st st':St)(more:an.X->Prop):VC:=
 match r7 st' an with
 |some ν=>match nodupB ν&&(pG st' an ν an.refs),dr false st'.aC an.aG ν an.aG ν with
  |true,some y =>.leaf (BA (tu st' an y an.refs++fk an.aG y st'.aC an.aG ν++[∃x',an.inv x'/\more x'/\jd st' (an.bX x')/\je st' (an.aC x'++fc st an.ey)/\(lu ν (iM an st x')=true/\y=an.pd x')]))
  |_,_ =>.ff
 |none =>.ff
def tw(cx:Cx)(ops:Array Oper)(draw:Bool)(st:St)(K:St->VC):VC:=
 match draw with
 |false=>AB cx ops.toList ops.toList st K
 |true=>match qk ops with
  |true=>L4 cx ops st fun st'=>K (canon st.next (db ops.toList) st')
  |false =>.ff
def jL:Code->Nat->Nat
 |.region id _ _,_=>id
 |.seq a b,d=>jL a (jL b d)
 |.cond _ a b,d=>jL a (jL b d)
 |.block _ b,d=>jL b d
 |.loop b,d=>jL b d
 |_,d=>d
def vc(cx:Cx)(anns:eo):Code->Nat->St->(Ex->St->VC)->VC
 |.skip,_,st,K=>K .normal st
 |.region id ops draw,_,st,K=>match(look anns (id+300000)).map (fun f=>tt st (f st))with
  |none=>tw cx ops draw st (K .normal)
  |some an=>match oM an.keep (db ops.toList)with
   |true =>.both (tw cx ops draw st (il an st))
    (.all an.X fun x =>.imp (an.inv x) (match fL st.next (bJ an st x).env&&(fD st.next (bJ an st x).aC&&jK (db ops.toList) (an.bX x))with
     |true=>K .normal (bJ an st x)
     |false =>.ff))
   |false =>.ff
 |.seq a b,cur,st,K=>vc cx anns a cur st fun e st'=>match e with
  |.normal=>vc cx anns b cur st' K
  |e=>K e st'
 |.cond c a b,cur,st,K=>match(look anns (jL a (jL b 0)+400000)).map (fun f=>tt st (f st))with
  |none=>match di st.env c with
   |.lit true=>vc cx anns a cur st K
   |.lit false=>vc cx anns b cur st K
   |.d .bool g =>.ite g (vc cx anns a cur st K) (vc cx anns b cur st K)
   |_ =>.ff
  |some an=>match oM an.keep (writes anns cur (.cond c a b))with
   |true =>.both (match di st.env c with
    |.lit true=>vc cx anns a cur st fun e st'=>match e with
     |.normal=>il an st st'
     |e=>K e st'
    |.lit false=>vc cx anns b cur st fun e st'=>match e with
     |.normal=>il an st st'
     |e=>K e st'
    |.d .bool g =>.ite g (vc cx anns a cur st fun e st'=>match e with
     |.normal=>il an st st'
     |e=>K e st') (vc cx anns b cur st fun e st'=>match e with
     |.normal=>il an st st'
     |e=>K e st')
    |_ =>.ff)
    (.all an.X fun x =>.imp (an.inv x) (match fL st.next (bJ an st x).env&&(fD st.next (bJ an st x).aC&&jK (writes anns cur (.cond c a b)) (an.bX x))with
     |true=>K .normal (bJ an st x)
     |false =>.ff))
   |false =>.ff
 |.block id b,_,st,K=>match(look anns (id+100000)).map (fun f=>tt st (f st))with
  |none=>vc cx anns b id st fun e st'=>match e with
   |.exit i=>match ab i id with
    |true=>K .normal st'
    |false=>K (.exit i) st'
   |e=>K e st'
  |some an=>match oM an.keep (writes anns id b)with
   |true =>.both (vc cx anns b id st fun e st'=>match e with
    |.exit i=>match ab i id with
     |true=>il an st st'
     |false=>K (.exit i) st'
    |.normal=>il an st st'
    |.ret=>K .ret st')
    (.all an.X fun x =>.imp (an.inv x) (match fL st.next (bJ an st x).env&&(fD st.next (bJ an st x).aC&&jK (writes anns id b) (an.bX x))with
     |true=>K .normal (bJ an st x)
     |false =>.ff))
   |false =>.ff
 |.loop b,cur,st,K=>match look anns (cur+200000)with
  |none=>match(look anns cur).map (fun f=>tt st (f st))with
   |some an=>match oM an.keep (writes anns cur b)with
    |true =>.and (∃x,an.inv x/\jd st (an.bX x)/\je st (an.aC x))
      (.all an.X fun x =>.imp (an.inv x) (match fL st.next (bJ an st x).env&&(fD st.next (bJ an st x).aC&&jK (writes anns cur b) (an.bX x))with
       |true=>vc cx anns b cur (bJ an st x) fun e st'=>match e with
        |.normal=>match jJ st'.env an.keep with
         |true =>.leaf (∃x',an.inv x'/\an.dx x'<an.dx x/\jd st' (an.bX x')/\je st' (an.aC x'++fc st an.ey))
         |false =>.ff
        |e=>K e st'
       |false =>.ff))
    |false =>.ff
   |none =>.leaf (K8 cur st)
  |some f=>match BE st (f st)with
   |an=>match oM an.keep (writes anns cur b)with
    |true =>.both (wB an st st fun _=>True)
      (.all an.X fun x =>.imp (an.inv x) (match kH an st (writes anns cur b) x with
       |true=>vc cx anns b cur (cX an st x) fun e st'=>match e with
        |.normal=>match jJ st'.env an.keep with
         |true=>wB an st st' fun x'=>an.dx x'<an.dx x
         |false =>.ff
        |e=>K e st'
       |false =>.ff))
    |false =>.ff
 |.exit id,_,st,K=>K (.exit id) st
 |.ret,_,st,K=>K .ret st
 |_,_,_,_ =>.ff
section
variable{X:Ext}{P:Program}{cx:Cx}
def yK{S:aY}{a b:C}{v:Value}(h:qu a b)(hv:CR cx.eT S a v):CR cx.eT S b v:=by
 unfold qu at h;split at h
 ·subst h;exact dv.2 hv
 ·split at h
  ·rename_i hb
   subst h;exact iH hb _ hv
  ·exact h.elim
 ·split at h
  ·rename_i t xs n t' ys m _ hb hn
   have hn:=ah hn;subst hn;have:t=t':=by have:=Ty.eq_of_beq hb;cases this;rfl
   subst this;rw[eg]at h;subst h;exact hv
  ·exact h.elim
 ·subst h;exact hv
def qw{S:aY}{a b:SV}{v:Value}(h:jH a b)(hv:cR cx.eT S a v):cR cx.eT S b v:=by
 unfold jH at h;split at h
 ·exact yK h hv
 ·subst h;exact hv
def wC{S:aY}:∀{Nj bs:List C} {vs:List Value},r6 Nj bs->dq cx.eT S Nj vs->dq cx.eT S bs vs:=by
 intro Nj;induction Nj with
 |nil=>
  intro bs vs h hv;cases bs with
  |nil=>exact hv
  |cons=>exact h.elim
 |cons a Nj ih=>
  intro bs vs h hv;cases bs with
  |nil=>exact h.elim
  |cons b bs=>
   cases hv with
   |cons h1 h2 h3=>exact .cons (yK h.1 h1) h2 (ih h.2 h3)
def qx{S:aY}{l:Loc}{a b:OC}(h:jI a b)(hv:OR cx.eT X S l a):OR cx.eT X S l b/\aO l l a b/\a.lo=b.lo:=by
 unfold jI at h;split at h
 ·split at h
  ·rename_i hT
   have:=ah hT;subst this;obtain⟨b,vs,h1,h2,h3,h4⟩:=hv;exact⟨⟨b,vs,h1,h2,h3,wC h h4⟩,rfl,rfl⟩
  ·exact h.elim
 ·split at h
  ·rename_i t xs t' ys hb
   have:t=t':=by have:=Ty.eq_of_beq hb;cases this;rfl
   subst this;rw[eg]at h;subst h;exact⟨hv,rfl,rfl⟩
  ·exact h.elim
 ·split at h
  ·rename_i t xs t' ys hb
   have:t=t':=by have:=Ty.eq_of_beq hb;cases this;rfl
   subst this;rw[eg]at h;subst h;exact⟨hv,rfl,rfl⟩
  ·exact h.elim
 ·split at h
  ·rename_i t xs t' ys hb
   have:t=t':=by have:=Ty.eq_of_beq hb;cases this;rfl
   subst this;rw[eg]at h;subst h;exact⟨hv,⟨rfl,ai _,fun _=>rfl⟩,rfl⟩
  ·exact h.elim
 ·split at h
  ·rename_i k t x k' t' y hk hb
   have:=ah hk;subst this;have:=Ty.eq_of_beq hb;subst this;rw[fQ]at h;subst h;exact⟨hv,⟨rfl,rfl⟩,rfl⟩
  ·exact h.elim
 ·obtain⟨h1,rfl,rfl⟩:=h
  obtain⟨b,m,c,sn,k1,k2,k3,k4,k5,k6⟩:=hv;exact⟨⟨b,m,c,sn,k1,k2,k3,wC h1 k4,k5,k6⟩,aa,rfl⟩
 ·exact h.elim
def qy{n:Nat}{l:List Nat}:qv n l=true↔n∈l:=by
 induction l with
 |nil=>simp[qv]
 |cons m r ih=>
  simp only[qv,ag];by_cases h:m=n
  ·subst h;simp[bh]
  ·rw[kA h];simp only[ih]
   constructor
   ·exact .inr
   ·rintro(h'|h')
    ·exact absurd h'.symm h
    ·exact h'
def oN{l W:List Nat}(h:oM l W=true):∀n∈l,allM∉W/\n∉W:=by
 intro n hn;unfold oM at h;split at h
 ·simp at hn
 ·simp only[ae,cg,bd]at h
  exact⟨fun hW=>by rw[qy.2 hW]at h;exact absurd h.1 (by decide),fun hW=>by have:=h.2 n hn;rw[qy.2 hW]at this;cases this⟩
def fE(cx:Cx)(X:Ext)(O:aD)(K:Ex->St->VC)(W:List Nat)(st:St)(S:aY):Exit->Act->World->Prop
 |.normal,a,w=>dZ cx X O (K .normal) W st S a w
 |.exit n,a,w=>dZ cx X O (K (.exit n)) W st S a w
 |.ret,a,w=>dZ cx X O (K .ret) W st S a w
 |_,_,_=>False
def fE.mono{O:aD}{K:Ex->St->VC}{W W':List Nat}{st st1:St}{S S1:aY}{e:Exit}{a:Act}{w:World}(h:fE cx X O K W st1 S1 e a w)(ht:Tr S S1)(ha:j9 W' st st1)(hW:∀n∈W,n∈W'):fE cx X O K W' st S e a w:=by
 have key:∀K:St->VC,dZ cx X O K W st1 S1 a w->dZ cx X O K W' st S a w:=by
  rintro K ⟨st',loc',k1,k2,k3,k4,k5⟩;exact⟨st',loc',k1,k2,ht.trans k3,k4,ha.trans fun hm t ht=>k5 (fun h=>hm (hW _ h)) t fun h=>ht (hW t h)⟩
 cases e with
 |normal=>exact key _ h
 |exit n=>exact key _ h
 |ret=>exact key _ h
 |goto l=>exact h
 |panic c=>exact h
 |outgrown=>exact h
def eV{st:St}{l:List Nat}{n:Nat}{v:SV}(h:look (ke st l) n=some v):n∈l/\look st.env n=some v:=by
 induction l with
 |nil=>simp[ke,look]at h
 |cons t r ih=>
  simp only[ke]at h;split at h
  ·rename_i u hu
   rw[bM]at h;by_cases e:t=n
   ·rw[if_pos e]at h;cases h;subst e;exact⟨by simp,hu⟩
   ·rw[if_neg e]at h;have:=ih h;exact⟨by simp[this.1],this.2⟩
  ·have:=ih h;exact⟨by simp[this.1],this.2⟩
def Ap{st:St}{l:List Nat}{n:Nat}{v:OC}(h:look (fc st l) n=some v):look st.aC n=some v:=by
 induction l with
 |nil=>simp[fc,look]at h
 |cons t r ih=>
  simp only[fc]at h;split at h
  ·rename_i u hu
   rw[bM]at h;by_cases e:t=n
   ·rw[if_pos e]at h;cases h;subst e;exact hu
   ·rw[if_neg e]at h;exact ih h
  ·exact ih h
def jk{st:St}{l:List (Nat×SV)}(h:jd st l):∀{n v},look l n=some v->∃u,look st.env n=some u/\jH u v:=by
 induction l with
 |nil=>intro n v hl;simp[look]at hl
 |cons p r ih=>
  obtain⟨m,x⟩:=p;intro n v hl;simp only[jd]at h;split at h
  ·rename_i u hu
   rw[bM]at hl;by_cases e:m=n
   ·rw[if_pos e]at hl;cases hl;subst e;exact⟨u,hu,h.1⟩
   ·rw[if_neg e]at hl;exact ih h.2 hl
  ·exact h.elim
def jl{st:St}{l:List (Nat×OC)}(h:je st l):∀{n v},look l n=some v->∃u,look st.aC n=some u/\jI u v:=by
 induction l with
 |nil=>intro n v hl;simp[look]at hl
 |cons p r ih=>
  obtain⟨m,x⟩:=p;intro n v hl;simp only[je]at h;split at h
  ·rename_i u hu
   rw[bM]at hl;by_cases e:m=n
   ·rw[if_pos e]at hl;cases hl;subst e;exact⟨u,hu,h.1⟩
   ·rw[if_neg e]at hl;exact ih h.2 hl
  ·exact h.elim
def cD{a b:Nat}(h:aq a b=true):a<b:=jb h
def Fp{S S':aY}(hO:∀b o v,¬S.A b o->S.w.cell? ⟨b,o,none⟩=some v->S'.w.cell? ⟨b,o,none⟩=some v/\¬S'.A b o)(hloc:S'.loc=S.loc)
  (hob:∀n oc,S'.ob n=some oc->∃oc0,S.ob n=some oc0/\aO (S.loc n) (S.loc n) oc0 oc){c:C}{v:Value}(hb:lQ S'.next c=true)(hv:CR cx.eT S c v):CR cx.eT S' c v:=by
 cases c with
 |lit b=>exact hv
 |d t x=>exact VR.frame hv hO
 |app t xs n=>
  obtain⟨h1,h2,h3⟩:=hv;refine⟨VR.frame h1 hO,cD hb,fun ys hy =>?_⟩;obtain⟨oc0,k1,k2⟩:=hob n _ hy;cases oc0 <;> simp[aO]at k2;obtain⟨rfl,k3⟩:=k2;obtain⟨m1,m2⟩:=h3 _ k1;rw[hloc];exact⟨by omega,fun e=>m2 (by omega)⟩
 |fO=>exact hv
 |eS=>exact hv
 |emp=>exact hv
 |aM n=>
  refine⟨cD hb,fun t xs e =>?_⟩;obtain⟨oc0,k1,k2⟩:=hob n _ e;cases oc0 <;> simp[aO]at k2;rw[hloc];exact hv.2 _ _ k1
 |lB n t lo len=>
  refine⟨cD hb,fun xs e =>?_⟩;obtain⟨oc0,k1,k2⟩:=hob n _ e;cases oc0 <;> simp[aO]at k2;subst k2;rw[hloc];exact hv.2 _ k1
 |kZ n=>
  refine⟨cD hb,fun t xs e =>?_⟩;obtain⟨oc0,k1,k2⟩:=hob n _ e;cases oc0 <;> simp[aO]at k2;rw[hloc];exact hv.2 _ _ k1
 |eL n=>
  refine⟨cD hb,fun oc e hx =>?_⟩;obtain⟨oc0,k1,k2⟩:=hob n _ e;rw[hloc];exact hv.2 _ k1 (by cases oc0 <;> cases oc <;> first|rfl|exact k2.elim|cases hx)
 |xd n p=>
  refine⟨cD hb,fun t x e =>?_⟩;obtain⟨oc0,k1,k2⟩:=hob n _ e;cases oc0 <;> simp[aO]at k2;obtain⟨rfl,rfl⟩:=k2;rw[hloc];exact hv.2 _ _ k1
 |ref n off=>
  refine⟨cD hb,fun T cs e =>?_⟩;obtain⟨oc0,k1,k2⟩:=hob n _ e;cases oc0 <;> simp[aO]at k2;rw[hloc];exact hv.2 _ _ k1
 |nU n=>
  refine⟨cD hb,?_⟩;rcases hv.2 with hn|hn
  ·exact .inl hn
  ·refine .inr fun T cs e =>?_
   obtain⟨oc0,k1,k2⟩:=hob n _ e;cases oc0 <;> simp[aO]at k2;rw[hloc];exact hn _ _ k1
 |iG n t i off=>
  refine⟨cD hb,fun⟨xs,e⟩ =>?_⟩;rw[hloc];rcases e with e|e
  ·obtain⟨oc0,k1,k2⟩:=hob n _ e
   cases oc0 <;> simp[aO]at k2;subst k2;exact hv.2 ⟨_,.inl k1⟩
  ·obtain⟨oc0,k1,k2⟩:=hob n _ e
   cases oc0 <;> simp[aO]at k2;subst k2;exact hv.2 ⟨_,.inr k1⟩
 |la t x=>
  obtain⟨b,o,us,rfl,h1,h2⟩:=hv;exact⟨b,o,us,rfl,h1.frame hO,h2.frame hO⟩
 |fn f caps=>
  obtain⟨rfl,h2⟩:=hv;refine⟨by rw[hloc],fun n hn=>⟨?_,fun t ys e =>?_⟩⟩
  ·have:∀l:List Nat,fX S'.next l=true->n∈l->n<S'.next:=by
    intro l;induction l with
    |nil=>intro _ h;simp at h
    |cons m r ih=>
     intro h hm;simp only[fX,ae]at h;rcases ag.1 hm with rfl|hm
     ·exact cD h.1
     ·exact ih h.2 hm
   exact this caps hb hn
  ·obtain⟨oc0,k1,k2⟩:=hob n _ e
   cases oc0 <;> simp[aO]at k2;exact(h2 n hn).2 _ _ k1
 |any=>trivial
def pI{k:Nat}:∀{l:List Nat} {n:Nat},fX k l=true->n∈l->n<k
 |[],_,_,h=>by simp at h
 |m :: r,n,h,hn=>by
  simp only[fX,ae]at h;rcases ag.1 hn with e|hn
  ·rw[e];exact cD h.1
  ·exact pI h.2 hn
def im{S S':aY}{k:Nat}(hrel:∀{c:C} {v:Value},lQ k c=true->CR cx.eT S c v->CR cx.eT S' c v):∀{cs:List C} {vs:List Value},lr k cs=true->dq cx.eT S cs vs->dq cx.eT S' cs vs:=by
 intro cs;induction cs with
 |nil=>intro vs _ h;cases h;exact .nil
 |cons c cs ih=>
  intro vs hb h;simp only[lr,ae]at hb;cases h with
  |cons h1 h2 h3=>exact .cons (hrel hb.1 h1) h2 (ih hb.2 h3)
def uc{S S':aY}(hO:∀b o v,¬S.A b o->S.w.cell? ⟨b,o,none⟩=some v->S'.w.cell? ⟨b,o,none⟩=some v/\¬S'.A b o){k:Nat}(hk:k<=S'.next)(hloc:∀n,n<k->S'.loc n=S.loc n)
  (hob:∀n oc,n<k->S'.ob n=some oc->∃oc0,S.ob n=some oc0/\aO (S.loc n) (S.loc n) oc0 oc){c:C}{v:Value}(hb:lQ k c=true)(hv:CR cx.eT S c v):CR cx.eT S' c v:=by
 cases c with
 |lit b=>exact hv
 |d t x=>exact VR.frame hv hO
 |app t xs n=>
  obtain⟨h1,h2,h3⟩:=hv;refine⟨VR.frame h1 hO,az (cD hb) hk,fun ys hy =>?_⟩;obtain⟨oc0,k1,k2⟩:=hob n _ (cD hb) hy;cases oc0 <;> simp[aO]at k2;obtain⟨rfl,k3⟩:=k2;obtain⟨m1,m2⟩:=h3 _ k1;rw[hloc n (cD hb)];exact⟨by omega,fun e=>m2 (by omega)⟩
 |fO=>exact hv
 |eS=>exact hv
 |emp=>exact hv
 |aM n=>
  refine⟨az (cD hb) hk,fun t xs e =>?_⟩;obtain⟨oc0,k1,k2⟩:=hob n _ (cD hb) e;cases oc0 <;> simp[aO]at k2;rw[hloc n (cD hb)];exact hv.2 _ _ k1
 |lB n t lo len=>
  refine⟨az (cD hb) hk,fun xs e =>?_⟩;obtain⟨oc0,k1,k2⟩:=hob n _ (cD hb) e;cases oc0 <;> simp[aO]at k2;subst k2;rw[hloc n (cD hb)];exact hv.2 _ k1
 |kZ n=>
  refine⟨az (cD hb) hk,fun t xs e =>?_⟩;obtain⟨oc0,k1,k2⟩:=hob n _ (cD hb) e;cases oc0 <;> simp[aO]at k2;rw[hloc n (cD hb)];exact hv.2 _ _ k1
 |eL n=>
  refine⟨az (cD hb) hk,fun oc e hx =>?_⟩;obtain⟨oc0,k1,k2⟩:=hob n _ (cD hb) e;rw[hloc n (cD hb)];exact hv.2 _ k1 (by cases oc0 <;> cases oc <;> first|rfl|exact k2.elim|cases hx)
 |xd n p=>
  refine⟨az (cD hb) hk,fun t x e =>?_⟩;obtain⟨oc0,k1,k2⟩:=hob n _ (cD hb) e;cases oc0 <;> simp[aO]at k2;obtain⟨rfl,rfl⟩:=k2;rw[hloc n (cD hb)];exact hv.2 _ _ k1
 |ref n off=>
  refine⟨az (cD hb) hk,fun T cs e =>?_⟩;obtain⟨oc0,k1,k2⟩:=hob n _ (cD hb) e;cases oc0 <;> simp[aO]at k2;rw[hloc n (cD hb)];exact hv.2 _ _ k1
 |nU n=>
  refine⟨az (cD hb) hk,?_⟩;rcases hv.2 with hn|hn
  ·exact .inl hn
  ·refine .inr fun T cs e =>?_
   obtain⟨oc0,k1,k2⟩:=hob n _ (cD hb) e;cases oc0 <;> simp[aO]at k2;rw[hloc n (cD hb)];exact hn _ _ k1
 |iG n t i off=>
  refine⟨az (cD hb) hk,fun⟨xs,e⟩ =>?_⟩;rw[hloc n (cD hb)];rcases e with e|e
  ·obtain⟨oc0,k1,k2⟩:=hob n _ (cD hb) e
   cases oc0 <;> simp[aO]at k2;subst k2;exact hv.2 ⟨_,.inl k1⟩
  ·obtain⟨oc0,k1,k2⟩:=hob n _ (cD hb) e
   cases oc0 <;> simp[aO]at k2;subst k2;exact hv.2 ⟨_,.inr k1⟩
 |la t x=>
  obtain⟨b,o,us,rfl,h1,h2⟩:=hv;exact⟨b,o,us,rfl,h1.frame hO,h2.frame hO⟩
 |fn f caps=>
  obtain⟨rfl,h2⟩:=hv;have hlt:∀n∈caps,n<k:=fun n hn=>pI hb hn
  refine⟨by rw[show(caps.map fun n=>(S.loc n).v)=(caps.map fun n=>(S'.loc n).v)from dT fun n hn=>by rw[hloc n (hlt n hn)]],fun n hn=>⟨az (hlt n hn) hk,fun t ys e =>?_⟩⟩;obtain⟨oc0,k1,k2⟩:=hob n _ (hlt n hn) e;cases oc0 <;> simp[aO]at k2;exact(h2 n hn).2 _ _ k1
 |any=>trivial
def aO.comp{l1 l2 l3:Loc}{a b c:OC}(h:aO l1 l2 a b)(h':aO l2 l3 b c):aO l1 l3 a c:=by
 cases a <;> cases b <;> simp[aO]at h <;> cases c <;> simp[aO]at h' ⊢
 all_goals (try(simp_all;done))
 obtain⟨rfl,a1,a2⟩:=h;obtain⟨rfl,b1,b2⟩:=h';refine⟨rfl,by omega,fun e =>?_⟩;rw[b2 (by omega),a2 (by omega)]
def o8{S S':aY}(hrel:∀{c:C} {v:Value},lQ S'.next c=true->CR cx.eT S c v->CR cx.eT S' c v):∀{cs:List C} {vs:List Value},lr S'.next cs=true->dq cx.eT S cs vs->dq cx.eT S' cs vs:=by
 intro cs;induction cs with
 |nil=>intro vs _ h;cases h;exact .nil
 |cons c cs ih=>
  intro vs hb h;simp only[lr,ae]at hb;cases h with
  |cons h1 h2 h3=>exact .cons (hrel hb.1 h1) h2 (ih hb.2 h3)
def nt{k:Nat}:∀{l:List (Nat×SV)},fL k l=true->∀{n v},look l n=some v->∃v0,v=.s v0/\BD k v0=true:=by
 intro l;induction l with
 |nil=>intro _ n v h;simp[look]at h
 |cons p r ih=>
  obtain⟨m,x⟩:=p;intro hb n v h;cases x with
  |jy vs=>simp[fL]at hb
  |s v0=>
   simp only[fL,ae]at hb;rw[bM]at h;by_cases e:m=n
   ·rw[if_pos e]at h;cases h;exact⟨v0,rfl,hb.1⟩
   ·rw[if_neg e]at h;exact ih hb.2 h
def gh{k:Nat}:∀{l:List (Nat×OC)},fD k l=true->∀{n v},look l n=some v->n<k/\Es k v=true:=by
 intro l;induction l with
 |nil=>intro _ n v h;simp[look]at h
 |cons p r ih=>
  obtain⟨m,x⟩:=p;intro hb n v h;simp only[fD,ae]at hb;rw[bM]at h;by_cases e:m=n
  ·rw[if_pos e]at h;cases h;subst e;exact⟨cD hb.1.1,hb.1.2⟩
  ·rw[if_neg e]at h;exact ih hb.2 h
def qz{an:gp}{O:aD}{st st':St}{loc loc0:Nat->Loc}{w w0:World}{a:Act}(x:an.X)(g:Good cx.eT X (aB O st' loc w))(hA:dR cx (aB O st' loc w) st' a)(ht:Tr (aB O st loc0 w0) (aB O st' loc w))
  (he:∀n v,look (bJ an st x).env n=some v->∃u,look st'.env n=some u/\jH u v)
  (ho:∀n v,look (bJ an st x).aC n=some v->∃u,look st'.aC n=some u/\jI u v)
  (hb1:fL st.next (bJ an st x).env=true)(hb2:fD st.next (bJ an st x).aC=true) :
  Good cx.eT X (aB O (bJ an st x) loc w)/\dR cx (aB O (bJ an st x) loc w) (bJ an st x) a/\Tr (aB O st loc0 w0) (aB O (bJ an st x) loc w):=by
 have hob:∀n oc,look (bJ an st x).aC n=some oc->∃oc0,look st'.aC n=some oc0/\aO (loc n) (loc n) oc0 oc/\oc0.lo=oc.lo/\OR cx.eT X (aB O st' loc w) (loc n) oc:=by
  intro n oc h;obtain⟨u,hu,hs⟩:=ho n oc h;obtain⟨h1,h2,h3⟩:=qx hs (g.obj n u hu).2;exact⟨u,hu,h2,h3,h1⟩
 have hAsub:∀b o,(aB O (bJ an st x) loc w).A b o->(aB O st' loc w).A b o:=by
  rintro b o (h|⟨n,oc,h1,h2,h3⟩)
  ·exact .inl h
  ·obtain⟨oc0,k1,_,k3,_⟩:=hob n oc h1
   exact .inr ⟨n,oc0,k1,h2,by rw[k3];exact h3⟩
 have hcell:∀b o v,¬(aB O st' loc w).A b o->w.cell? ⟨b,o,none⟩=some v->w.cell? ⟨b,o,none⟩=some v/\¬(aB O (bJ an st x) loc w).A b o:=fun b o v h1 h2=>⟨h2,fun h=>h1 (hAsub b o h)⟩
 have hrel:∀{c:C} {v:Value},lQ st.next c=true->CR cx.eT (aB O st' loc w) c v->CR cx.eT (aB O (bJ an st x) loc w) c v:=fun hb hv=>
  Fp (S:=aB O st' loc w) (S':=aB O (bJ an st x) loc w) hcell rfl (fun n oc h=>let⟨oc0,k1,k2,_⟩:=hob n oc h;⟨oc0,k1,k2⟩) hb hv
 have hor:∀n oc,look (bJ an st x).aC n=some oc->OR cx.eT X (aB O (bJ an st x) loc w) (loc n) oc:=by
  intro n oc h;obtain⟨_,_,_,_,k4⟩:=hob n oc h;have hb:=(gh hb2 h).2;cases oc with
  |cells T cs=>
   obtain⟨b,vs,h1,h2,h3,h4⟩:=k4;exact⟨b,vs,h1,h2,h3,o8 hrel hb h4⟩
  |aM t xs=>
   rcases k4 with k4|⟨b,vs,T,cap,h1,h2,h3,h4,h5,h6,h7⟩
   ·exact .inl k4
   ·exact .inr ⟨b,vs,T,cap,h1,h2,h3,h4,h5,h6,fun i y hy=>let⟨us,r1,r2⟩:=h7 i y hy;⟨us,r1.frame hcell,r2⟩⟩
  |arr t xs=>
   obtain⟨b,vs,T,h1,h2,h3,h4,h5⟩:=k4;exact⟨b,vs,T,h1,h2,h3,h4,fun i y hy=>let⟨us,r1,r2⟩:=h5 i y hy;⟨us,r1.frame hcell,r2⟩⟩
  |tok t xs=>
   rcases k4 with k4|⟨b,vs,T,cap,h1,h2,h3,h4,h5,h6,h7⟩
   ·exact .inl k4
   ·exact .inr ⟨b,vs,T,cap,h1,h2,h3,h4,h5,h6,fun i y hy=>let⟨us,r1,r2⟩:=h7 i y hy;⟨us,r1.frame hcell,r2⟩⟩
  |ext k t x=>exact k4
  |iter cs seen cl=>obtain⟨b,m,c,sn,k1,k2,k3,k4,k5⟩:=k4;exact⟨b,m,c,sn,k1,k2,k3,o8 hrel hb k4,k5⟩
 refine⟨⟨fun n oc h=>⟨(gh hb2 h).1,hor n oc h⟩,fun n m oc oc' b h1 h2 h3 h4 =>?_,fun n oc b off h1 h2 =>?_,g.gl.sub rfl fun b ⟨n,oc,h1,h2⟩=>by obtain⟨oc0,k1,_⟩:=hob n oc h1;exact⟨n,oc0,k1,h2⟩⟩,⟨hA.size,hA.defers,fun n v h =>?_⟩,?_⟩
 ·obtain⟨oc0,k1,_⟩:=hob n oc h1
  obtain⟨oc0',k1',_⟩:=hob m oc' h2;exact g.apart n m oc0 oc0' b k1 k1' h3 h4
 ·obtain⟨oc0,k1,_⟩:=hob n oc h1
  exact g.out n oc0 b off k1 h2
 ·obtain⟨u,hu,hs⟩:=he n v h
  have hv:=qw hs (hA.env n u hu);obtain⟨v0,rfl,hb⟩:=nt hb1 h;cases v0 with
  |one c=>exact hrel hb hv
  |agg cs=>obtain⟨vs,h1,h2⟩:=hv;exact⟨vs,h1,o8 hrel hb h2⟩
 ·refine{O:=ht.O,next:=ai _,os:=ht.os,output:=ht.output,size:=ht.size,own:=fun b hb =>?_,cell:=fun b o v h1 h2 =>?_,block:=ht.block,loc:=ht.loc,kind:=fun n oc hn h =>?_}
  ·obtain⟨n,oc,h1,h2⟩:=hb
   obtain⟨oc0,k1,_⟩:=hob n oc h1;exact ht.own b ⟨n,oc0,k1,h2⟩
  ·obtain⟨k1,k2⟩:=ht.cell b o v h1 h2
   exact⟨k1,fun h=>k2 (hAsub b o h)⟩
  ·obtain⟨oc0,k1,k2,_⟩:=hob n oc h
   obtain⟨oc1,m1,m2⟩:=ht.kind n oc0 hn k1;exact⟨oc1,m1,m2.comp k2⟩
def Ty.beq_refl:∀t:Ty,Ty.beq t t=true:=by
 intro t;induction t with
 |prod a b iha ihb=>simp[Ty.beq,iha,ihb]
 |slice e ih=>simp[Ty.beq,ih]
 |int k=>simp[Ty.beq]
 |_=>rfl
def wD(c:C):qu c c:=by
 cases c with
 |d t x=>
  simp only[qu];split
  ·rfl
  ·rename_i h;rw[Ty.beq_refl]at h;cases h
 |app t xs n=>
  simp only[qu];split
  ·rfl
  ·rename_i h;exact(h (Ty.beq_refl _) (bh _)).elim
 |_=>rfl
def fY(v:SV):jH v v:=by
 cases v with
 |s v=>
  cases v with
  |one c=>exact wD c
  |agg cs=>rfl
 |jy vs=>rfl
def o9:∀cs:List C,r6 cs cs
 |[]=>trivial
 |c :: cs=>⟨wD c,o9 cs⟩
def Du(v:OC):jI v v:=by
 cases v with
 |cells T cs=>
  simp only[jI,bh];exact o9 cs
 |aM t xs=>
  simp only[jI];split
  ·rfl
  ·rename_i h;rw[Ty.beq_refl]at h;cases h
 |arr t xs=>
  simp only[jI];split
  ·rfl
  ·rename_i h;rw[Ty.beq_refl]at h;cases h
 |tok t xs=>
  simp only[jI];split
  ·rfl
  ·rename_i h;rw[Ty.beq_refl]at h;cases h
 |ext k t x=>
  simp only[jI];split
  ·rfl
  ·rename_i h;exact(h (bh _) (Ty.beq_refl _)).elim
 |iter cs seen cl=>exact⟨o9 cs,rfl,rfl⟩
def mH{W:List Nat}:∀{l:List (Nat×SV)},jK W l=true->∀{n v},look l n=some v->n∈W:=by
 intro l;induction l with
 |nil=>intro _ n v h;simp[look]at h
 |cons p r ih=>
  obtain⟨m,x⟩:=p;intro hb n v h;simp only[jK,ae]at hb;rw[bM]at h;by_cases e:m=n
  ·subst e;exact qy.1 hb.1
  ·rw[if_neg e]at h;exact ih hb.2 h
def kS{env:List (Nat×SV)}:∀{l:List Nat},jJ env l=true->∀{n},n∈l->∃v,look env n=some v:=by
 intro l;induction l with
 |nil=>intro _ n h;simp at h
 |cons t r ih=>
  intro hb n h;simp only[jJ]at hb;split at hb
  ·rename_i u hu
   rcases ag.1 h with rfl|h
   ·exact⟨u,hu⟩
   ·exact ih hb h
  ·cases hb
def K9{O:aD}{K:Ex->St->VC}{W:List Nat}{st:St}{S:aY}{next:Act->World->Prop}{Q:Exit->Act->World->Prop}{K':Ex->St->VC}
  (hn:∀a w,dZ cx X O (K' .normal) W st S a w->next a w)(hK:∀e,e≠.normal->K' e=K e)(hQ:∀e a w,fE cx X O K W st S e a w->e≠.normal->Q e a w){e:Exit}{a:Act}{w:World}
  (h:fE cx X O K' W st S e a w):Exit.then next Q e a w:=by
 cases e with
 |normal=>exact hn a w h
 |exit n=>exact hQ _ _ _ (by simpa[fE,hK (.exit n) (by simp)]using h) (by simp)
 |ret=>exact hQ _ _ _ (by simpa[fE,hK .ret (by simp)]using h) (by simp)
 |goto l=>exact h.elim
 |panic c=>exact h.elim
 |outgrown=>exact h.elim
structure BF (an:gp) (st st':St) (x:an.X) (ν:List Nat):Prop where
 nodup:nodupB ν=true
 refs:pG st' an ν an.refs=true
 get:dr false st'.aC an.aG ν an.aG ν=some (an.pd x)
 Me:∀p∈tu st' an (an.pd x) an.refs,p
 conds:∀p∈fk an.aG (an.pd x) st'.aC an.aG ν,p
 env:jd st' (an.bX x)
 aC:je st' (iM an st x)
 out:lu ν (iM an st x)=true
def yL{an:gp}{st st':St}{more:an.X->Prop}(h:(wB an st st' more).holds):∃x,an.inv x/\more x/\∃ν,BF an st st' x ν:=by
 unfold wB at h;split at h
 ·rename_i ν _
  split at h
  ·rename_i y hc hy
   simp only[ae]at hc;have hall:=qp h;obtain⟨x,h1,h2,h3,h4,h5,h6⟩:=hall (∃x',an.inv x'/\more x'/\jd st' (an.bX x')/\je st' (an.aC x'++fc st an.ey)/\(lu ν (iM an st x')=true/\y=an.pd x')) (List.mem_append_right _ (List.mem_singleton.2 rfl));subst h6;obtain⟨k1,_⟩:=fy.1 hall;obtain⟨k1,k2⟩:=fy.1 k1;exact⟨x,h1,h2,ν,hc.1,hc.2,hy,k1,k2,h3,h4,h5⟩
  ·exact h.elim
 ·exact h.elim
def od{ν:List Nat}:∀{l:List (Nat×OC)},lu ν l=true->∀{n v},look l n=some v->n∉ν
 |[],_,n,v,h=>by simp[look]at h
 |(m,u) :: r,hk,n,v,h=>by
  simp only[lu,ae,bd]at hk;rw[bM]at h;split at h
  ·rename_i e;subst e
   intro hm;rw[vb.2 hm]at hk;exact absurd hk.1 (by decide)
  ·exact od hk.2 h
def kI{an:gp}{y:PD an.aG}{us:List Nat}:∀{l:List (Nat×Nat)} {t:Nat} {v:SV},look (pH an y us l) t=some v->∃k,(t,k)∈l/\v=.s (.one (eB an.aG y us k))
 |[],t,v,h=>by simp[pH,look]at h
 |(m,k) :: r,t,v,h=>by
  simp only[pH,bM]at h;split at h
  ·rename_i e;subst e;cases h;exact⟨k,by simp,rfl⟩
  ·obtain⟨k',h1,h2⟩:=kI h;exact⟨k',by simp[h1],h2⟩
def qA{st:St}{an:gp}{ν:List Nat}:∀{l:List (Nat×Nat)} {t k:Nat},pG st an ν l=true->(t,k)∈l->∃c,look st.env t=some (.s (.one c))/\gg false st.aC an.aG ν k c=true
 |[],_,_,_,h=>by simp at h
 |(m,i) :: r,t,k,h,hm=>by
  simp only[pG,ae]at h;rcases ag.1 hm with e|hm
  ·cases e
   obtain⟨h1,_⟩:=h;split at h1
   ·rename_i c hc;exact⟨c,hc,h1⟩
   ·cases h1
  ·exact qA h.2 hm
def r8{st:St}{an:gp}{y:PD an.aG}:∀{l:List (Nat×Nat)} {t k:Nat} {c:C},(∀p∈tu st an y l,p)->(t,k)∈l->look st.env t=some (.s (.one c))->∀p∈o6 an.aG y k c,p
 |[],_,_,_,_,h,_=>by simp at h
 |(m,i) :: r,t,k,c,h,hm,hl=>by
  simp only[tu]at h;obtain⟨h1,h2⟩:=fy.1 h;rcases ag.1 hm with e|hm
  ·cases e
   rw[hl]at h1;exact h1
  ·exact r8 h2 hm hl
def qB{keep:List Nat}:∀{l:List (Nat×Nat)} {t k:Nat},mU keep l=true->(t,k)∈l->t∉keep
 |[],_,_,_,h=>by simp at h
 |(m,i) :: r,t,k,h,hm=>by
  simp only[mU,ae,bd]at h;rcases ag.1 hm with e|hm
  ·cases e
   intro hk;rw[qy.2 hk]at h;exact absurd h.1 (by decide)
  ·exact qB h.2 hm
def yM{an:gp}{O:aD}{st st':St}{loc loc0:Nat->Loc}{w w0:World}{a:Act}{W:List Nat}(x:an.X)(g:Good cx.eT X (aB O st' loc w))(hA:dR cx (aB O st' loc w) st' a)(ht:Tr (aB O st loc0 w0) (aB O st' loc w))
  (hok:kH an st W x=true)(hkeep:∀n∈an.keep,∀v,look st.env n=some v->∃u,look st'.env n=some u/\jH u v)(hf:∃ν,BF an st st' x ν) :
  ∃loc',Good cx.eT X (aB O (cX an st x) loc' w)/\dR cx (aB O (cX an st x) loc' w) (cX an st x) a/\Tr (aB O st loc0 w0) (aB O (cX an st x) loc' w):=by
 obtain⟨ν,hf⟩:=hf;simp only[kH,ae]at hok;obtain⟨hb1,hb2,hkeys,hnr⟩:=hok;generalize husd:upto st.next an.aG.length=us;have husl:us.length=an.aG.length:=by rw[<-husd];exact qt _ _
 have hus:nodupB us=true:=by rw[<-husd];exact gQ _ _
 have husm:∀n∈us,st.next<=n/\n<st.next+an.aG.length:=fun n hn=>by rw[<-husd]at hn;exact qq hn
 have hlen:ν.length=us.length:=by rw[husl];exact(kd hf.get).symm
 let loc':=dB us (ν.map loc) loc
 have hlow:∀n,n<st.next->loc' n=loc n:=fun n hn=>iz fun hm=>by have:=(husm n hm).1;omega
 have hnu:∀n,n<st.next->n∉us:=fun n hn hm=>by have:=(husm n hm).1;omega
 have hrest:∀m oc,look (iM an st x) m=some oc->m<st.next/\m∉ν/\∃u,look st'.aC m=some u/\aO (loc m) (loc m) u oc/\u.lo=oc.lo/\OR cx.eT X (aB O st' loc w) (loc m) oc:=by
  intro m oc hm;obtain⟨u,hu,hs⟩:=jl hf.aC hm;obtain⟨h1,h2,h3⟩:=qx hs (g.obj m u hu).2;exact⟨(gh hb2 hm).1,od hf.out hm,u,hu,h2,h3,h1⟩
 have hob:∀m oc,look (cX an st x).aC m=some oc->(∃(i n:Nat) (o:Ob) (y:OD o) (oc0:OC),ν[i]?=some n/\us[i]?=some m/\look st'.aC n=some oc0/\fK false st'.aC an.aG ν o oc0=some y/\
   oc=mj (eB an.aG (an.pd x) us) o y/\loc' m=loc n)\/(m∉us/\look (iM an st x) m=some oc/\loc' m=loc m):=by
  intro m oc hm;simp only[cX,husd,cQ]at hm;split at hm
  ·rename_i oc' hm'
   cases hm;obtain⟨i,n,o,y,oc0,k1,k2,k3,k4,k5,k6,_⟩:=lP hf.get (lO (X:=X) g hf.get hf.get hf.conds) hlen hm';exact .inl ⟨i,n,o,y,oc0,k1,k2,k4,k5,k6,fV hus k2 (by simp[k1])⟩
  ·rename_i hm'
   have hnin:m∉us:=fun hmem=>by
    obtain⟨oc1,h2⟩:=lq (f:=eB an.aG (an.pd x) us) (x:=an.pd x) husl.symm hmem;rw[h2]at hm';cases hm'
   exact .inr ⟨hnin,hm,iz hnin⟩
 have hAsub:∀b o,(aB O (cX an st x) loc' w).A b o->(aB O st' loc w).A b o:=by
  rintro b off (h|⟨m,oc,h1,h2,h3⟩)
  ·exact .inl h
  ·rcases hob m oc h1 with⟨i,n,o,y,oc0,k1,k2,k4,k5,k6,k7⟩|⟨k1,k2,k3⟩
   ·refine .inr ⟨n,oc0,k4,by simp only[aB]at h2;rw[k7]at h2;exact h2,?_⟩
    rcases tq (f:=eB an.aG (an.pd x) us) k5 with e|e
    ·rw[<-e,<-k6];exact h3
    ·cases e
   ·obtain⟨_,_,u,hu,_,hlo,_⟩:=hrest m oc k2
    exact .inr ⟨m,u,hu,by simp only[aB]at h2;rw[k3]at h2;exact h2,by rw[hlo];exact h3⟩
 have hcell:∀b o v,¬(aB O st' loc w).A b o->w.cell? ⟨b,o,none⟩=some v->w.cell? ⟨b,o,none⟩=some v/\¬(aB O (cX an st x) loc' w).A b o:=fun b o v h1 h2=>⟨h2,fun h=>h1 (hAsub b o h)⟩
 have hrel:∀{c:C} {v:Value},lQ st.next c=true->CR cx.eT (aB O st' loc w) c v->CR cx.eT (aB O (cX an st x) loc' w) c v:=fun hb hv=>
  uc (S:=aB O st' loc w) (S':=aB O (cX an st x) loc' w) (k:=st.next) hcell (by simp[aB,cX]) (fun n hn=>hlow n hn) (fun n oc hn h=>by
   rcases hob n oc h with⟨i,n',o,y,oc0,k1,k2,_⟩|⟨k1,k2,k3⟩
   ·exact absurd (aw k2) (hnu n hn)
   ·obtain⟨_,_,u,hu,hk,_,_⟩:=hrest n oc k2
    exact⟨u,hu,hk⟩) hb hv
 obtain⟨gN,laid⟩:=AG (X:=X) g hf.get hf.conds hf.nodup (O2:=O) (ν2:=us) (rest:=iM an st x) (locR:=loc) (st2:=cX an st x) hus hlen (by simp only[cX,husd])
  (fun n hn=>by have:=(husm n hn).2;simp only[cX];exact this)
  (fun n hn b hb off h=>by
   obtain⟨_,oc,_,_,k,_⟩:=fW hf.get hn;exact g.out n oc b off k hb h)
  (fun n hn b hb m oc h1 h2 h3=>by
   obtain⟨_,oc0,_,_,k,_⟩:=fW hf.get hn;obtain⟨_,hmν,u,hu,_⟩:=hrest m oc h1;have:=g.apart n m oc0 u b k hu hb h3;exact hmν (by rw[<-this];exact hn))
  (fun m oc h1 h2=>by
   obtain⟨hm,_,u,hu,hk,hlo,hor⟩:=hrest m oc h1;refine⟨by simp only[cX];omega,?_⟩;have hb:=(gh hb2 h1).2;cases oc with
   |cells T cs=>
    obtain⟨b,vs,h1,h2,h3,h4⟩:=hor;exact⟨b,vs,h1,h2,h3,im (k:=st.next) hrel hb h4⟩
   |aM t xs=>exact u9.to (S:=aB O st' loc w) (S':=aB O (cX an st x) loc' w) rfl (.inr hAsub) hor
   |tok t xs=>exact u9.to (X:=X) (S:=aB O st' loc w) (S':=aB O (cX an st x) loc' w) (l:=loc m) rfl (.inr hAsub) hor
   |arr t xs=>
    obtain⟨b,vs,T,h1,h2,h3,h4,h5⟩:=hor;exact⟨b,vs,T,h1,h2,h3,h4,fun i y hy=>let⟨us,r1,r2⟩:=h5 i y hy;⟨us,r1.frame hcell,r2⟩⟩
   |ext k t x=>exact hor
   |iter cs seen cl=>obtain⟨b,m,c,sn,k1,k2,k3,k4,k5⟩:=hor;exact⟨b,m,c,sn,k1,k2,k3,im (k:=st.next) hrel hb k4,k5⟩)
  (fun m m' oc oc' b h1 h2 _ _ h3 h4=>by
   obtain⟨_,_,u,hu,_⟩:=hrest m oc h1;obtain⟨_,_,u',hu',_⟩:=hrest m' oc' h2;exact g.apart m m' u u' b hu hu' h3 h4)
  (fun m oc b off h1 _ h2=>by
   obtain⟨_,_,u,hu,_⟩:=hrest m oc h1;exact g.out m u b off hu h2)
  (.inr hAsub)
  (fun b hb ⟨m,oc,h1,h2⟩=>by
   rcases hob m oc h1 with⟨i,n,o,y,oc0,k1,k2,k4,k5,k6,k7⟩|⟨k1,k2,k3⟩
   ·refine g.gl.2 b hb ⟨n,oc0,k4,?_⟩
    have e:dB us (ν.map loc) loc m=loc n:=k7;simp only[aB]at h2;rw[e]at h2;exact h2
   ·obtain⟨_,_,u,hu,_⟩:=hrest m oc k2
    have e:dB us (ν.map loc) loc m=loc m:=k3;refine g.gl.2 b hb ⟨m,u,hu,?_⟩;simp only[aB]at h2;rw[e]at h2;exact h2)
 refine⟨loc',gN,⟨hA.size,hA.defers,fun t sv hl =>?_⟩,?_⟩
 ·simp only[cX,husd,cQ]at hl
  split at hl
  ·rename_i v hv
   cases hl;obtain⟨k,hk,rfl⟩:=kI hv;obtain⟨c,hc,hs⟩:=qA hf.refs hk;have hcv:CR cx.eT (aB O st' loc w) c (a.tmps.getD t undef):=hA.env t _ hc;exact r4 laid (tp g hcv hf.get hs (r8 hf.Me hk hc))
  ·have hl2:look (nF an st x) t=some sv:=hl
   have hst:∃u,look st'.env t=some u/\jH u sv:=by
    simp only[nF,cQ]at hl2;split at hl2
    ·rename_i v hv;cases hl2;exact jk hf.env hv
    ·obtain⟨h1,h2⟩:=eV hl2;exact hkeep t h1 sv h2
   obtain⟨u,hu,hs⟩:=hst;have hv:=qw hs (hA.env t u hu);obtain⟨v0,rfl,hb⟩:=nt hb1 hl2;cases v0 with
   |one c=>exact hrel hb hv
   |agg cs=>obtain⟨vs,h1,h2⟩:=hv;exact⟨vs,h1,im (k:=st.next) hrel hb h2⟩
 ·refine{O:=ht.O,next:=by simp[aB,cX],os:=ht.os,output:=ht.output,size:=ht.size,own:=fun b hb =>?_,cell:=fun b o v h1 h2 =>?_,block:=ht.block,loc:=fun n hn hfx =>?_,kind:=fun n oc hn h =>?_}
  ·obtain⟨m,oc,h1,h2⟩:=hb
   rcases hob m oc h1 with⟨i,n,o,y,oc0,k1,k2,k4,k5,k6,k7⟩|⟨k1,k2,k3⟩
   ·exact ht.own b ⟨n,oc0,k4,by simp only[aB]at h2;rw[k7]at h2;exact h2⟩
   ·obtain⟨_,_,u,hu,_⟩:=hrest m oc k2
    exact ht.own b ⟨m,u,hu,by simp only[aB]at h2;rw[k3]at h2;exact h2⟩
  ·obtain⟨k1,k2⟩:=ht.cell b o v h1 h2
   exact⟨k1,fun h=>k2 (hAsub b o h)⟩
  ·show(loc' n).v=_/\(_->loc' n=_)
   rw[hlow n hn];exact ht.loc n hn hfx
  ·rcases hob n oc h with⟨i,n',o,y,oc0,k1,k2,_⟩|⟨k1,k2,k3⟩
   ·exact absurd (aw k2) (hnu n hn)
   ·obtain⟨_,_,u,hu,hk,_,_⟩:=hrest n oc k2
    obtain⟨oc1,m1,m2⟩:=ht.kind n u hn hu;refine⟨oc1,m1,?_⟩;show aO _ (loc' n) _ _;rw[hlow n hn];exact m2.comp hk
def Fq{an:gp}{st:St}{W:List Nat}{x:an.X}(hok:kH an st W x=true){n:Nat}(hn:n∈an.keep){v:SV}(h:look (cX an st x).env n=some v)(hW:n∉W):look st.env n=some v:=by
 simp only[kH,ae]at hok;obtain⟨_,_,hkeys,hnr⟩:=hok;simp only[cX,nF,cQ]at h;split at h
 ·rename_i u hu
  obtain⟨k,hk,_⟩:=kI hu;exact absurd hn (qB hnr hk)
 ·split at h
  ·rename_i u hu;exact absurd (mH hkeys hu) hW
  ·exact(eV h).2
def yN{O:aD}{st:St}{loc:Nat->Loc}{w:World}{an:gp}{W:List Nat}{K:St->VC}(hdis:oM an.keep W=true)
  (hk:(VC.all an.X fun x =>.imp (an.inv x) (match fL st.next (bJ an st x).env&&(fD st.next (bJ an st x).aC&&jK W (an.bX x))with
     |true=>K (bJ an st x)
     |false =>.ff)).holds){a':Act}{w':World}:dZ cx X O (il an st) W st (aB O st loc w) a' w'->dZ cx X O K W st (aB O st loc w) a' w':=by
 have hkeepW:=oN hdis;rintro⟨st2,loc2,k1,k2,k3,k4,k5⟩;simp only[il]at k1;split at k1
 case h_2=>exact k1.elim
 rename_i hpres;obtain⟨x',hx',hs',ho'⟩:=k1;have hvx:=hk x' hx';split at hvx
 case h_2=>exact hvx.elim
 rename_i hbb;simp only[ae]at hbb;have hhead:∀t,t∉W->∀v,look (bJ an st x').env t=some v->look st.env t=some v:=by
  intro t ht v hv;simp only[bJ,cQ]at hv;split at hv
  ·rename_i u hu;exact absurd (mH hbb.2.2 hu) ht
  ·exact(eV hv).2
 obtain⟨m1,m2,m3⟩:=qz (an:=an) (st:=st) x' k2 k4 k3 (by
   intro n v hv;simp only[bJ,cQ]at hv;split at hv
   ·rename_i u hu;cases hv;exact jk hs' hu
   ·obtain⟨hmem,hl⟩:=eV hv
    refine⟨v,?_,fY v⟩;obtain⟨v',hv'⟩:=kS hpres hmem;have:=k5 (hkeepW n hmem).1 n (hkeepW n hmem).2 v' hv';rw[hl]at this;cases this;exact hv')
  (by
   intro n v hv;simp only[bJ]at hv;exact jl ho' hv) hbb.1 hbb.2.1
 exact⟨bJ an st x',loc2,hvx,m1,m3,m2,fun _ t ht v hv=>hhead t ht v hv⟩
def yO(hok:ik P cx X){O:aD}{id:Nat}{ops:Array Oper}{draw:Bool}{st:St}{loc:Nat->Loc}{w:World}{a:Act}{K:Ex->St->VC}(hA:dR cx (aB O st loc w) st a)(g:Good cx.eT X (aB O st loc w))(hO:dA O w)
  (h:(tw cx ops draw st (K .normal)).holds):(Code.region id ops draw).wp P (fE cx X O K (db ops.toList) st (aB O st loc w)) a w:=by
 have hW:∀(j:Nat) (oj:Oper) (d:Nat),ops[j]?=some oj->oj.dst=some d->d∈db ops.toList:=by
  intro j oj d hj hd;exact kF.2 ⟨oj,by rw[<-Array.getElem?_toList]at hj;exact aw hj,hd⟩
 have hq:∀st' loc' a' w',(K .normal st').holds->Good cx.eT X (aB O st' loc' w')->Tr (aB O st loc w) (aB O st' loc' w')->dR cx (aB O st' loc' w') st' a'->j9 (db ops.toList) st st'->
   fE cx X O K (db ops.toList) st (aB O st loc w) .normal a' w':=fun st' loc' a' w' h1 h2 h3 h4 h5=>⟨st',loc',h1,h2,h3,h4,h5⟩
 unfold tw at h;cases draw with
 |false=>
  refine wp_region_list ?_;exact tW hok hW ops.toList (fun o ho d hd=>kF.2 ⟨o,ho,hd⟩) hA g hO h hq
 |true=>
  split at h
  ·rename_i e;cases e
  ·rename_i e
   split at h
   ·rename_i hreg
    rw[Em]at h;refine wp_region_any hok.mixed (xO (loud:=gw cx ops.toList) _ _ _ _ (aB O st loc {w with drawn:=w.drawn+1}).A ?_);have hdrew:Below w.heap.size w {w with drawn:=w.drawn+1}:=⟨rfl,rfl,ai _,fun _ _=>rfl⟩;obtain⟨tr,g'⟩:=lE (S:=aB O st loc w) (S':=aB O st loc {w with drawn:=w.drawn+1}) g rfl rfl rfl rfl hdrew;refine tX hok hW hreg (fun c a w h=>h) ops.size _ ?_ ⟨hA.size,hA.defers,hA.env.tr tr⟩ g' (hO.tr (ai _)) h ?_
    ·intro j o ho hj
     rw[bc,Array.getElem?_replicate]at hj;split at hj <;> simp at hj
    ·intro st' loc' a' w' h1 h2 h3 h4 h5
     obtain⟨st2,loc2,k1,k2,k3,k4,k5⟩:=dZ.MU (K:=K .normal) (f:=canon st.next (db ops.toList)) (W:=db ops.toList) hA (fun st'=>by
      rcases wz st.next (db ops.toList) st' with e|⟨r,q,k1,k2⟩
      ·exact .inl e
      ·exact .inr ⟨r,q,k1,k2⟩) (⟨st',loc',h1,h2,tr.trans h3,h4,h5⟩:dZ cx X O (fun st'=>K .normal (canon st.next (db ops.toList) st')) (db ops.toList) st (aB O st loc w) a' w')
     exact hq st2 loc2 a' w' k1 k2 k3 k4 k5
   ·exact h.elim
def Js(hok:ik P cx X)(anns:eo){O:aD}:∀(c:Code) (cur:Nat) {st:St} {loc:Nat->Loc} {w:World} {a:Act} {K:Ex->St->VC},
  dR cx (aB O st loc w) st a->Good cx.eT X (aB O st loc w)->dA O w->(vc cx anns c cur st K).holds->c.wp P (fE cx X O K (writes anns cur c) st (aB O st loc w)) a w:=by
 intro c;induction c with
 |skip=>intro cur st loc w a K hA g hO h;exact wp_skip ⟨st,loc,h,g,Tr.refl _,hA,fun _ _ _ _ h=>h⟩
 |region id ops draw=>
  intro cur st loc w a K hA g hO h;simp only[vc]at h;split at h
  ·exact yO hok hA g hO h
  ·rename_i an _
   split at h
   case h_2=>exact h.elim
   rename_i hdis;obtain⟨hb,hk⟩:=h;refine wp_mono (yO (K:=fun e=>match e with|.normal=>il an st|e=>K e) hok hA g hO hb) ?_;intro e a' w' hq;cases e with
   |normal=>exact yN hdis hk hq
   |exit i=>exact hq
   |ret=>exact hq
   |goto l=>exact hq.elim
   |panic c=>exact hq.elim
   |outgrown=>exact hq.elim
 |seq c1 c2 ih1 ih2=>
  intro cur st loc w a K hA g hO h;refine wp_seq ?_;refine wp_mono (ih1 cur hA g hO h) ?_;intro e a' w' hq;refine K9 (K:=K) (W:=writes anns cur c1) ?_ (fun e he=>by cases e <;> simp_all) ?_ hq
  ·rintro a1 w1 ⟨st',loc',k1,k2,k3,k4,k5⟩
   refine wp_mono (ih2 cur k4 k2 (hO.tr k3.size) k1) ?_;intro e a2 w2 hq2;exact hq2.mono k3 (W':=writes anns cur (.seq c1 c2)) (fun hm t ht=>k5 (fun h=>hm (ba.2 (.inl h))) t fun hm=>ht (ba.2 (.inl hm))) (fun n hn=>ba.2 (.inr hn))
  ·intro e a1 w1 hq1 _
   exact hq1.mono (Tr.refl _) (fun _ _ _ _ h=>h) (fun n hn=>ba.2 (.inl hn))
 |cond x c1 c2 ih1 ih2=>
  intro cur st loc w a K hA g hO h;have hx:=bD hA.env x;have h1:∀{K},(vc cx anns c1 cur st K).holds->c1.wp P (fE cx X O K (writes anns cur (.cond x c1 c2)) st (aB O st loc w)) a w:=fun h=>
   wp_mono (ih1 cur hA g hO h) fun e a' w' hq=>hq.mono (Tr.refl _) (fun _ _ _ _ h=>h) (fun n hn=>ba.2 (.inl hn))
  have h2:∀{K},(vc cx anns c2 cur st K).holds->c2.wp P (fE cx X O K (writes anns cur (.cond x c1 c2)) st (aB O st loc w)) a w:=fun h=>
   wp_mono (ih2 cur hA g hO h) fun e a' w' hq=>hq.mono (Tr.refl _) (fun _ _ _ _ h=>h) (fun n hn=>ba.2 (.inr hn))
  have base:∀{K:Ex->St->VC},(match di st.env x with
    |.lit true=>vc cx anns c1 cur st K
    |.lit false=>vc cx anns c2 cur st K
    |.d .bool g =>.ite g (vc cx anns c1 cur st K) (vc cx anns c2 cur st K)
    |_ =>.ff).holds->(Code.cond x c1 c2).wp P (fE cx X O K (writes anns cur (.cond x c1 c2)) st (aB O st loc w)) a w:=by
   intro K h;split at h
   ·rename_i hl;rw[hl]at hx;exact wp_cond_true hx (h1 h)
   ·rename_i hl;rw[hl]at hx;exact wp_cond_false hx (h2 h)
   ·rename_i b hl
    rw[hl]at hx;have hx:=(dv (eT:=cx.eT) (S:=aB O st loc w) (b:=b)).1 hx;cases b
    ·exact wp_cond_false hx (h2 (h.2 rfl))
    ·exact wp_cond_true hx (h1 (h.1 rfl))
   ·exact h.elim
  simp only[vc]at h;split at h
  ·exact base h
  ·rename_i an _
   split at h
   case h_2=>exact h.elim
   rename_i hdis;obtain⟨hb,hk⟩:=h;refine wp_mono (base (K:=fun e st'=>match e with|.normal=>il an st st'|e=>K e st') hb) ?_;intro e a' w' hq;cases e with
   |normal=>exact yN hdis hk hq
   |exit i=>exact hq
   |ret=>exact hq
   |goto l=>exact hq.elim
   |panic c=>exact hq.elim
   |outgrown=>exact hq.elim
 |block id b ih=>
  intro cur st loc w a K hA g hO h;refine wp_block ?_;simp only[vc]at h;split at h
  case h_2=>
   rename_i an _;split at h
   case h_2=>exact h.elim
   rename_i hdis;have hkeepW:=oN hdis;obtain⟨hb,hk⟩:=h;refine wp_mono (ih id hA g hO hb) ?_;intro e a' w' hq;have join:dZ cx X O (il an st) (writes anns id b) st (aB O st loc w) a' w'->fE cx X O K (writes anns cur (.block id b)) st (aB O st loc w) .normal a' w':=by
    rintro⟨st2,loc2,k1,k2,k3,k4,k5⟩;simp only[il]at k1;split at k1
    case h_2=>exact k1.elim
    rename_i hpres;obtain⟨x',hx',hs',ho'⟩:=k1;have hvx:=hk x' hx';split at hvx
    case h_2=>exact hvx.elim
    rename_i hbb;simp only[ae]at hbb;have hhead:∀t,t∉writes anns id b->∀v,look (bJ an st x').env t=some v->look st.env t=some v:=by
     intro t ht v hv;simp only[bJ,cQ]at hv;split at hv
     ·rename_i u hu;exact absurd (mH hbb.2.2 hu) ht
     ·exact(eV hv).2
    obtain⟨m1,m2,m3⟩:=qz (an:=an) (st:=st) x' k2 k4 k3 (by
      intro n v hv;simp only[bJ,cQ]at hv;split at hv
      ·rename_i u hu;cases hv;exact jk hs' hu
      ·obtain⟨hmem,hl⟩:=eV hv
       refine⟨v,?_,fY v⟩;obtain⟨v',hv'⟩:=kS hpres hmem;have:=k5 (hkeepW n hmem).1 n (hkeepW n hmem).2 v' hv';rw[hl]at this;cases this;exact hv')
     (by
      intro n v hv;simp only[bJ]at hv;exact jl ho' hv) hbb.1 hbb.2.1
    exact⟨bJ an st x',loc2,hvx,m1,m3,m2,fun _ t ht v hv=>hhead t ht v hv⟩
   cases e with
   |normal=>exact join hq
   |exit i=>
    show if i=id then _ else _
    by_cases hi:i=id
    ·rw[if_pos hi]
     subst hi;obtain⟨st',loc',k1,k2⟩:=hq;simp only[bh]at k1;exact join ⟨st',loc',k1,k2⟩
    ·rw[if_neg hi]
     obtain⟨st',loc',k1,k2⟩:=hq;simp only[kA hi]at k1;exact⟨st',loc',k1,k2⟩
   |ret=>exact hq
   |goto l=>exact hq.elim
   |panic c=>exact hq.elim
   |outgrown=>exact hq.elim
  refine wp_mono (ih id hA g hO h) ?_;intro e a' w' hq;cases e with
  |normal=>exact hq
  |exit i=>
   obtain⟨st',loc',k1,k2,k3,k4,k5⟩:=hq;simp only at k1;show if i=id then _ else _
   split at k1
   ·rename_i hi
    rw[if_pos (ah hi)];exact⟨st',loc',k1,k2,k3,k4,k5⟩
   ·rename_i hi
    rw[if_neg (fun e=>by rw[e,bh]at hi;cases hi)];exact⟨st',loc',k1,k2,k3,k4,k5⟩
  |ret=>exact hq
  |goto l=>exact hq.elim
  |panic c=>exact hq.elim
  |outgrown=>exact hq.elim
 |loop b ih=>
  intro cur st loc w a K hA g hO h;simp only[vc]at h;split at h
  ·rename_i hnone
   have hwl:writes anns cur (.loop b)=writes anns cur b:=by simp only[writes,hnone]
   split at h
   case h_2=>exact h.elim
   rename_i an _;split at h
   ·rename_i hdis
    have hkeepW:=oN hdis;obtain⟨⟨x0,hx0,hs0,ho0⟩,h⟩:=h;have hobk:∀x n v,look (bJ an st x).aC n=some v->look (an.aC x) n=some v\/look st.aC n=some v:=by
     intro x n v hv;simp only[bJ,cQ]at hv;split at hv
     ·rename_i u hu;cases hv;exact .inl hu
     ·exact .inr (Ap hv)
    have hhead:∀x,jK (writes anns cur b) (an.bX x)=true->∀t,t∉writes anns cur b->∀v,look (bJ an st x).env t=some v->look st.env t=some v:=by
     intro x hk t ht v hv;simp only[bJ,cQ]at hv;split at hv
     ·rename_i u hu;exact absurd (mH hk hu) ht
     ·exact(eV hv).2
    refine wp_loop_ghost (fun n a' w'=>∃x loc',an.inv x/\an.dx x=n/\fL st.next (bJ an st x).env=true/\(fD st.next (bJ an st x).aC=true/\jK (writes anns cur b) (an.bX x)=true)/\
     (vc cx anns b cur (bJ an st x) fun e st'=>match e with
       |.normal=>match jJ st'.env an.keep with
        |true =>.leaf (∃x',an.inv x'/\an.dx x'<an.dx x/\jd st' (an.bX x')/\je st' (an.aC x'++fc st an.ey))
        |false =>.ff
       |e=>K e st').holds/\
     Good cx.eT X (aB O (bJ an st x) loc' w')/\dR cx (aB O (bJ an st x) loc' w') (bJ an st x) a'/\Tr (aB O st loc w) (aB O (bJ an st x) loc' w')) (an.dx x0) ?_ ?_
    ·have hx:=h x0 hx0
     split at hx
     ·rename_i hb
      simp only[ae]at hb;obtain⟨m1,m2,m3⟩:=qz (an:=an) (st:=st) x0 g hA (Tr.refl _) (by
        intro n v hv;simp only[bJ,cQ]at hv;split at hv
        ·rename_i u hu;cases hv;exact jk hs0 hu
        ·obtain⟨_,hl⟩:=eV hv
         exact⟨v,hl,fY v⟩)
       (by
        intro n v hv;rcases hobk x0 n v hv with hv|hv
        ·exact jl ho0 hv
        ·exact⟨v,hv,Du v⟩) hb.1 hb.2.1
      exact⟨x0,loc,hx0,rfl,hb.1,hb.2,hx,m1,m2,m3⟩
     ·exact hx.elim
    ·rintro n a1 w1 ⟨x,loc1,hx,hn,hb1,hb2,hvc,g1,hA1,tr1⟩
     refine wp_mono (ih cur hA1 g1 (hO.tr tr1.size) hvc) ?_;intro e a2 w2 hq;have up:∀Kx:St->VC,dZ cx X O Kx (writes anns cur b) (bJ an st x) (aB O (bJ an st x) loc1 w1) a2 w2->dZ cx X O Kx (writes anns cur (.loop b)) st (aB O st loc w) a2 w2:=by
      rintro Kx ⟨st2,loc2,k1,k2,k3,k4,k5⟩;exact⟨st2,loc2,k1,k2,tr1.trans k3,k4,fun hm t ht v hv=>by rw[hwl]at hm ht;exact hhead x hb2.2 t ht v (k5 hm t ht v hv)⟩
     cases e with
     |normal=>
      obtain⟨st2,loc2,k1,k2,k3,k4,k5⟩:=hq;simp only at k1;split at k1
      case h_2=>exact k1.elim
      rename_i hpres;obtain⟨x',hx',hlt,hs',ho'⟩:=k1;have hvx:=h x' hx';refine⟨an.dx x',by rw[<-hn];exact hlt,?_⟩;split at hvx
      ·rename_i hb
       simp only[ae]at hb;obtain⟨m1,m2,m3⟩:=qz (an:=an) (st:=st) x' k2 k4 (tr1.trans k3) (by
         intro n v hv;simp only[bJ,cQ]at hv;split at hv
         ·rename_i u hu;cases hv;exact jk hs' hu
         ·obtain⟨hmem,hl⟩:=eV hv
          refine⟨v,?_,fY v⟩;obtain⟨v',hv'⟩:=kS hpres hmem;have:=hhead x hb2.2 n (hkeepW n hmem).2 v' (k5 (hkeepW n hmem).1 n (hkeepW n hmem).2 v' hv');rw[hl]at this;cases this;exact hv')
        (by
         intro n v hv;simp only[bJ]at hv;exact jl ho' hv) hb.1 hb.2.1
       exact⟨x',loc2,hx',rfl,hb.1,hb.2,hvx,m1,m2,m3⟩
      ·exact hvx.elim
     |exit i=>exact up _ hq
     |ret=>exact up _ hq
     |goto l=>exact hq.elim
     |panic c=>exact hq.elim
     |outgrown=>exact hq.elim
   ·exact h.elim
  ·rename_i f hsome
   have hwl:writes anns cur (.loop b)=allM :: writes anns cur b:=by simp only[writes,hsome]
   generalize BE st (f st)=an at h;split at h
   case h_2=>exact h.elim
   rename_i hdis;have hkeepW:=oN hdis;obtain⟨hfit,h⟩:=h;obtain⟨x0,hx0,_,hf0⟩:=yL hfit;refine wp_loop_ghost (fun n a' w'=>∃x loc',an.inv x/\an.dx x=n/\kH an st (writes anns cur b) x=true/\
    (vc cx anns b cur (cX an st x) fun e st'=>match e with
      |.normal=>match jJ st'.env an.keep with
       |true=>wB an st st' fun x'=>an.dx x'<an.dx x
       |false =>.ff
      |e=>K e st').holds/\
    Good cx.eT X (aB O (cX an st x) loc' w')/\dR cx (aB O (cX an st x) loc' w') (cX an st x) a'/\Tr (aB O st loc w) (aB O (cX an st x) loc' w')) (an.dx x0) ?_ ?_
   ·have hx:=h x0 hx0
    split at hx
    case h_2=>exact hx.elim
    rename_i hok2;obtain⟨loc',m1,m2,m3⟩:=yM (an:=an) (st:=st) x0 g hA (Tr.refl _) hok2 (fun n hn v hv=>⟨v,hv,fY v⟩) hf0;exact⟨x0,loc',hx0,rfl,hok2,hx,m1,m2,m3⟩
   ·rintro n a1 w1 ⟨x,loc1,hx,hn,hokx,hvc,g1,hA1,tr1⟩
    refine wp_mono (ih cur hA1 g1 (hO.tr tr1.size) hvc) ?_;intro e a2 w2 hq;have up:∀Kx:St->VC,dZ cx X O Kx (writes anns cur b) (cX an st x) (aB O (cX an st x) loc1 w1) a2 w2->dZ cx X O Kx (writes anns cur (.loop b)) st (aB O st loc w) a2 w2:=by
     rintro Kx ⟨st2,loc2,k1,k2,k3,k4,k5⟩;exact⟨st2,loc2,k1,k2,tr1.trans k3,k4,fun hm=>by rw[hwl]at hm;exact absurd (List.mem_cons_self) hm⟩
    cases e with
    |normal=>
     obtain⟨st2,loc2,k1,k2,k3,k4,k5⟩:=hq;simp only at k1;split at k1
     case h_2=>exact k1.elim
     rename_i hpres;obtain⟨x',hx',hlt,hf'⟩:=yL k1;have hvx:=h x' hx';split at hvx
     case h_2=>exact hvx.elim
     rename_i hok2;refine⟨an.dx x',by rw[<-hn];exact hlt,?_⟩;obtain⟨loc',m1,m2,m3⟩:=yM (an:=an) (st:=st) x' k2 k4 (tr1.trans k3) hok2 (fun n hn v hv=>by
      obtain⟨v',hv'⟩:=kS hpres hn;have h1:=k5 (hkeepW n hn).1 n (hkeepW n hn).2 v' hv';refine⟨v',hv',?_⟩;have h2:=Fq hokx hn h1 (hkeepW n hn).2;rw[hv]at h2;cases h2;exact fY v) hf'
     exact⟨x',loc',hx',rfl,hok2,hvx,m1,m2,m3⟩
    |exit i=>exact up _ hq
    |ret=>exact up _ hq
    |goto l=>exact hq.elim
    |panic c=>exact hq.elim
    |outgrown=>exact hq.elim
 |rangeFunc f ps Nj b _ _=>intro cur st loc w a K _ _ _ h;exact h.elim
 |exit id=>intro cur st loc w a K hA g hO h;exact wp_exit ⟨st,loc,h,g,Tr.refl _,hA,fun _ _ _ _ h=>h⟩
 |scope b _=>intro cur st loc w a K _ _ _ h;exact h.elim
 |label l=>intro cur st loc w a K _ _ _ h;exact h.elim
 |goto l=>intro cur st loc w a K _ _ _ h;exact h.elim
 |ret=>intro cur st loc w a K hA g hO h;exact wp_ret ⟨st,loc,h,g,Tr.refl _,hA,fun _ _ _ _ h=>h⟩
 |refuse why=>intro cur st loc w a K _ _ _ h;exact h.elim
end
@[reducible] def HL:List Ty->Type
 |[]=>Unit
 |[t]=>D t
 |t :: u :: r=>D t×HL (u :: r)
def gR:List Ty->Bool
 |[]=>true
 |t :: r=>t.flat&&gR r
def AI(st:St)(want:Ty)(n:Nat):Option (D want):=
 match look st.aC n with
 |some (.ext 0 t xs)=>match h:Ty.beq t want with
  |true=>some (bR h (a:=t) xs)
  |false=>none
 |_=>none
def Fs(lend:Bool)(st:St)(t:Ty)(a:bT):Option (D t):=
 match lend,t,a with
 |true,.slice e,.one (.aM n)=>rD st e (.aM n)
 |true,t,.one (.xd n .top)=>AI st t n
 |_,t,a=>nq t a
def kT(lend:Bool)(st:St):(ts:List Ty)->List bT->Option (HL ts)
 |[],[]=>some ()
 |[t],[a]=>Fs lend st t a
 |t :: u :: r,a :: Nj=>match Fs lend st t a,kT lend st (u :: r) Nj with
  |some x,some xs=>some (x,xs)
  |_,_=>none
 |_,_=>none
def mm:(ts:List Ty)->HL ts->List bT
 |[],_=>[]
 |[t],y=>[.one (.d t y)]
 |t :: u :: r,ys =>.one (.d t ys.1) :: mm (u :: r) ys.2
def oO:List bT->SV
 |[v] =>.s v
 |vs =>.jy vs
def r9(st:St)(c:C):C×St:=
 match c with
 |.aM n=>match look st.aC n with
  |some (.aM t xs)=>(.d (.slice t) xs,aS st n)
  |_=>(c,st)
 |.xd n .top=>match look st.aC n with
  |some (.ext 0 t xs)=>(.d t xs,aS st n)
  |_=>(c,st)
 |c=>(c,st)
def qC:St->List C->List C×St
 |st,[]=>([],st)
 |st,c :: cs=>match r9 st c with
  |(c',st1)=>match qC st1 cs with
   |(cs',st2)=>(c' :: cs',st2)
def vf(st:St)(v:bT):bT×St:=
 match v with
 |.one c=>match r9 st c with
  |(c',st')=>(.one c',st')
 |.agg cs=>match qC st cs with
  |(cs',st')=>(.agg cs',st')
def xS(lend:Bool)(st:St)(v:bT):bT×St:=
 match lend,v with
 |true,.one c=>(.one c,st)
 |_,v=>vf st v
def pa(lend:Bool):St->List bT->List bT×St
 |st,[]=>([],st)
 |st,v :: vs=>match xS lend st v with
  |(v',st1)=>match pa lend st1 vs with
   |(vs',st2)=>(v' :: vs',st2)
def mn(ts rts:List Ty)(pre:HL ts->Prop)(post:HL ts->HL rts->Prop):bA:=fun args st K=>
 match pa (gR rts) st args with
 |(args,st)=>match kT (gR rts) st ts args with
  |some xs =>.and (pre xs) (.all (HL rts) fun ys =>.imp (post xs ys) (K (oO (mm rts ys)) st))
  |none =>.ff
def dj(ts rts:List Ty)(pre:HL ts->Prop)(g:HL ts->HL rts):bA:=fun args st K=>
 match pa (gR rts) st args with
 |(args,st)=>match kT (gR rts) st ts args with
  |some xs =>.and (pre xs) (K (oO (mm rts (g xs))) st)
  |none =>.ff
inductive Mf (α:Type) where
 |ret (a:α)
 |ite (c:Bool) (a b:Mf α)
def Mf.eval{α:Type}:Mf α->α
 |.ret a=>a
 |.ite c a b=>match c with
  |true=>a.eval
  |false=>b.eval
def Hh(st:St)(want:Ty)(c:C):Option (D want):=
 match c with
 |.aM n=>match look st.aC n with
  |some (.aM t xs)=>match h:Ty.beq (.slice t) want with
   |true=>some (bR h (a:=.slice t) xs)
   |false=>none
  |_=>none
 |.xd n .top=>AI st want n
 |c=>pq want c
def kU(st:St):(t:Ty)->List C->Option (D t×List C)
 |.prod a b,cs=>match kU st a cs with
  |some (x,cs1)=>match kU st b cs1 with
   |some (y,cs2)=>some ((x,y),cs2)
   |none=>none
  |none=>none
 |.unit,cs=>some ((),cs)
 |t,c :: cs=>match Hh st t c with
  |some x=>some (x,cs)
  |none=>none
 |_,[]=>none
def Ft(st:St)(want:Ty):bT->Option (D want)
 |.one c=>Hh st want c
 |.agg cs=>match want.one with
  |true=>none
  |false=>match kU st want cs with
   |some (x,[])=>some x
   |_=>none
def sa(st:St):(ts:List Ty)->List bT->Option (HL ts)
 |[],[]=>some ()
 |[t],[a]=>Ft st t a
 |t :: u :: r,a :: Nj=>match Ft st t a,sa st (u :: r) Nj with
  |some x,some xs=>some (x,xs)
  |_,_=>none
 |_,_=>none
def mI(cx:Cx)(st:St):List ResultVar->(List bT->VC)->VC
 |[],K=>K []
 |.tmp t :: r,K=>match ev st.env (.tmp t)with
  |.s v=>mI cx st r fun vs=>K (v :: vs)
  |_ =>.ff
 |.cell a t :: r,K=>rB cx st t (di st.env (.tmp a)) fun sv=>match sv with
  |.s v=>mI cx st r fun vs=>K (v :: vs)
  |_ =>.ff
def Fu(cx:Cx)(anns:eo)(res:List ResultVar)(c:Code)(st:St)(K:List bT->St->VC):VC:=
 vc cx anns c 0 st fun e st'=>match e with
  |.exit _ =>.ff
  |_=>mI cx st' res fun vs=>K vs st'
def nu(B:Cx)(Γ:List (FuncId×(Bool×bA)))(N:Nat):Cx:={B with Γ:=Γ,N:=N}
def pJ:Nat->(ts:List Ty)->HL ts->List (Nat×SV)
 |_,[],_=>[]
 |k,[t],x=>[(k,.s (.one (.d t x)))]
 |k,t :: u :: r,xs=>(k,.s (.one (.d t xs.1))) :: pJ (k+1) (u :: r) xs.2
def mJ(ts:List Ty)(xs:HL ts):St:={env:=pJ 0 ts xs,aC:=[],next:=0}
def Et(B:Cx)(Γ:List (FuncId×(Bool×bA)))(N:Nat)(anns:eo)(res:List ResultVar)(c:Code)(ts rts:List Ty)(post:HL ts->HL rts->Prop)(xs:HL ts):VC:=
 Fu (nu B Γ N) anns res c (mJ ts xs) fun vs st=>match sa st rts vs with
  |some ys =>.leaf (post xs ys)
  |none =>.ff
section
variable{eT:TypeId}{X:Ext}{P:Program}{cx:Cx}
def iO(eT:TypeId)(A:aD)(w:World):(ts:List Ty)->HL ts->List Value->Prop
 |[],_,vs=>vs=[]
 |[t],x,vs=>∃v,vs=[v]/\VR eT t x A w v
 |t :: u :: r,xs,vs=>∃v vs',vs=v :: vs'/\VR eT t xs.1 A w v/\iO eT A w (u :: r) xs.2 vs'
def qD:List Value->Value
 |[v]=>v
 |vs =>.tuple vs.toArray
structure cG (P:Program) (eT:TypeId) (X:Ext) (f:FuncId) (ts rts:List Ty) (pre:HL ts->Prop) (post:HL ts->HL rts->Prop):Prop where
 fn:∃fn,P.funcs[f]?=some fn/\fn.body.isNone=false/\(fn.name == "runtime.NumGoroutine")=false
 ok:∀O w xs vs,X.rr w->dA O w->iO eT O w ts xs vs->pre xs->
  Calls P f vs.toArray w fun e w'=>∃us ys,e=.returned (qD us)/\post xs ys/\iO eT O w' rts ys us/\Below w.heap.size w w'
def oe(tmps:Array Value):ResultVar->Sem Value
 |.tmp t=>pure (tmps.getD t undef)
 |.cell b t=>do loadVar t (<-asAddr (tmps.getD b undef))
def ud(hok:TyOK P cx){O:aD}{st:St}{loc:Nat->Loc}{w:World}{a:Act}(g:Good cx.eT X (aB O st loc w))(he:en cx.eT (aB O st loc w) st.env a) :
  ∀{rs:List ResultVar} {K:List bT->VC},(mI cx st rs K).holds->
  ∃vs us,(K vs).holds/\bW cx.eT (aB O st loc w) vs us/\(rs.mapM (oe a.tmps):Sem (List Value)).run P w=.ok us w:=by
 intro rs;induction rs with
 |nil=>intro K h;exact⟨[],[],h,.nil,rfl⟩
 |cons r rs ih=>
  intro K h;cases r with
  |tmp t=>
   simp only[mI]at h;split at h
   ·rename_i v hv
    obtain⟨vs,us,h1,h2,h3⟩:=ih h;have hr:=ig he (.tmp t);rw[hv]at hr;refine⟨v :: vs,a.tmps.getD t undef :: us,h1,.cons hr h2,?_⟩;rw[ed];simp only[oe,af,ak,ar,h3]
   ·exact h.elim
  |cell b t=>
   simp only[mI]at h;obtain⟨sv,u,h1,h2,h3⟩:=p8 (P:=P) hok g (bD he (.tmp b)) h;split at h1
   ·rename_i v
    obtain⟨vs,us,k1,k2,k3⟩:=ih h1;have h3:=h3 w (Below.refl _ _);refine⟨v :: vs,u :: us,k1,.cons h2 k2,?_⟩;rw[ed];have h4:(do loadVar t (<-asAddr (a.tmps.getD b undef)):Sem Value).run P w=.ok u w:=by
     have h3:(ck t (a.tmps.getD b undef)).run P w=.ok u w:=h3;generalize a.tmps.getD b undef=p at h3;cases p with
     |pointer q=>
      cases q with
      |none=>simp[ck,ef]at h3
      |some q=>simpa[ck,ef,asAddr]using h3
     |_=>simp[ck,ef]at h3
    simp only[oe,af]at h4 ⊢;simp only[h4,ak,ar,k3]
   ·exact h1.elim
def bW.len{S:aY}{xs:List bT}{us:List Value}(h:bW eT S xs us):xs.length=us.length:=by
 induction h with
 |nil=>rfl
 |cons _ _ ih=>simp[ih]
def sb{S:aY}{vs:List bT}{us:List Value}(h:bW eT S vs us):cR eT S (oO vs) (qD us):=by
 match vs,us,h with
 |[],[],h=>exact⟨[],rfl,h⟩
 |[v],[u],.cons h1 .nil=>exact h1
 |_ :: _ :: _,_ :: _ :: _,h=>exact⟨_,rfl,h⟩
def pb(hok:ik P cx X){f:FuncId}{fn:Func}{c:Code}(hf:P.funcs[f]?=some fn)(hb:fn.body=some c)(hN:cx.N=fn.ntmps)(anns:eo){O:aD}{st:St}{loc:Nat->Loc}{w:World}
  {args:Array Value}{K:List bT->St->VC}(hsz:args.size<=fn.ntmps)(g:Good cx.eT X (aB O st loc w))(hO:dA O w)
  (henv:∀t sv,look st.env t=some sv->∃v,args[t]?=some v/\cR cx.eT (aB O st loc w) sv v)
  (h:(Fu cx anns fn.results.toList c st K).holds) :
  Calls P f args w fun e w'=>∃vs us st' loc',e=.returned (qD us)/\(K vs st').holds/\bW cx.eT (aB O st' loc' w') vs us/\Good cx.eT X (aB O st' loc' w')/\Tr (aB O st loc w) (aB O st' loc' w'):=by
 refine calls_of_wp hf hb ?_;have hA:dR cx (aB O st loc w) st {tmps:=args++kh (fn.ntmps-args.size) undef,defers:=[]}:=by
  refine⟨by simp[hN];omega,rfl,fun t sv ht =>?_⟩;obtain⟨v,hv,hr⟩:=henv t sv ht;have hlt:t<args.size:=by
   rcases a8 t args.size with hh|hh
   ·exact hh
   ·rw[Array.getElem?_eq_none hh]at hv;cases hv
  rw[bc,Array.getElem?_append,if_pos hlt,hv];exact hr
 refine wp_mono (Js hok anns c 0 hA g hO h) ?_;have fin:∀(a':Act) (w':World),dZ cx X O (fun st'=>mI cx st' fn.results.toList fun vs=>K vs st') (writes anns 0 c) st (aB O st loc w) a' w'->a'.defers=[]/\∃v,(results fn a'.tmps).run P w'=.ok v w'/\
   ∃vs us st' loc',Ending.returned v=.returned (qD us)/\(K vs st').holds/\bW cx.eT (aB O st' loc' w') vs us/\Good cx.eT X (aB O st' loc' w')/\Tr (aB O st loc w) (aB O st' loc' w'):=by
  rintro a' w' ⟨st',loc',k1,k2,k3,k4,_⟩;obtain⟨vs,us,m1,m2,m3⟩:=ud (P:=P) hok.toTyOK k2 k4.env k1;refine⟨k4.defers,qD us,?_,vs,us,st',loc',rfl,m1,m2,k2,k3⟩;have hm:(fn.results.mapM (oe a'.tmps):Sem (Array Value)).run P w'=.ok us.toArray w':=by
   rw[<-eh (xs:=fn.results),List.mapM_toArray,Sem.run_map,m3];rfl
  have he:results fn a'.tmps=(do
    let xs <-fn.results.mapM (oe a'.tmps)
    return if h:xs.size=1 then xs[0]else .tuple xs):=by
   unfold results;congr 1
  rw[he,af,hm];simp only[ar,ak]
  match us with
  |[]=>rfl
  |[u]=>rfl
  |_ :: _ :: _=>rfl
 intro e a' w' hq;cases e with
 |normal=>exact fin a' w' hq
 |ret=>exact fin a' w' hq
 |exit n=>obtain⟨st',loc',k1,_⟩:=hq;exact k1.elim
 |goto l=>exact hq.elim
 |panic c=>exact hq.elim
 |outgrown=>exact hq.elim
end
section
variable{X:Ext}{P:Program}{cx:Cx}
def Hi{O:aD}{st:St}{loc:Nat->Loc}{w:World}{b o:Nat}(h:¬(aB O st loc w).A b o):¬O b o:=fun k=>h (.inl k)
def MZ{O:aD}{st:St}{loc:Nat->Loc}{w:World}{t:Ty}{x:D t}{v:Value}{eT:TypeId}(h:VR eT t x (aB O st loc w).A w v):VR eT t x O w v:=
 VR.frame h fun _ _ _ ha hc=>⟨hc,Hi ha⟩
def Eu{O:aD}{st:St}{loc:Nat->Loc}{w:World}(g:Good cx.eT X (aB O st loc w)){n:Nat}{t:Ty}{xs:List (D t)}(hob:look st.aC n=some (.aM t xs))
  {v:Value}(hx:CR cx.eT (aB O st loc w) (.aM n) v):VR cx.eT (.slice t) xs O w v:=by
 rcases(g.obj _ _ hob).2 with⟨rfl,⟨a,ha⟩,_⟩|⟨b,vs,T,cap,hl,eP,hheap,hvs,hcap,hbig,he⟩
 ·exact VR.bQ rfl ⟨_,rfl,by simp,.inl ⟨rfl,a,0,(hx.2 _ _ hob).trans ha⟩⟩
 refine VR.bQ rfl ⟨_,rfl,hbig,.inr ⟨b,0,cap,(hx.2 _ _ hob).trans hl,hcap,fun i y hy =>?_⟩⟩;obtain⟨us,h1,h2⟩:=he i y hy;refine⟨us,h1.frame fun _ _ _ ha hc=>⟨hc,Hi ha⟩,fun j u hj=>⟨?_,?_⟩⟩
 ·rw[ay,cell_of_row w b _ vs T (0,0) hheap];exact h2 j u hj
 ·exact g.out n _ b _ hob (by rw[eP];simp)
def Ev{O:aD}{st:St}{loc:Nat->Loc}{w:World}(g:Good cx.eT X (aB O st loc w)){n:Nat}{t:Ty}{xs:D t}(hob:look st.aC n=some (.ext 0 t xs))
  {v:Value}(hx:CR cx.eT (aB O st loc w) (.xd n .top) v){A:aD}(hA:∀b∈(loc n).bs,∀o,¬A b o):VR cx.eT t xs A w v:=by
 have hd:gK t xs (loc n) w:=X.deep.1 (g.obj _ _ hob).2;obtain⟨e,s,rfl,hs⟩:=oC hd;exact hd.data (hx.2 _ _ hob) hA
def yP{O:aD}{st:St}{loc:Nat->Loc}{w:World}(g:Good cx.eT X (aB O st loc w)){n:Nat}{t:Ty}{xs:D t}(h:AI st t n=some xs)
  {v:Value}(hx:CR cx.eT (aB O st loc w) (.xd n .top) v):VR cx.eT t xs O w v:=by
 unfold AI at h;split at h
 ·rename_i t' ys hob
  split at h
  ·cases h;rename_i hb
   exact iH hb _ (Ev g hob hx fun b hb o=>g.out n _ b o hob hb)
  ·cases h
 ·cases h
def Ew{O:aD}{st:St}{loc:Nat->Loc}{w:World}(g:Good cx.eT X (aB O st loc w)){want:Ty}{c:C}{x:D want}{v:Value}(h:Hh st want c=some x)
  (hc:CR cx.eT (aB O st loc w) c v):VR cx.eT want x O w v:=by
 unfold Hh at h;split at h
 ·rename_i n
  split at h
  ·rename_i t xs hob
   split at h
   ·cases h;rename_i hb;exact iH hb _ (Eu g hob hc)
   ·cases h
  ·cases h
 ·exact yP g h hc
 ·exact MZ (mf h hc)
def Hj{O:aD}{st:St}{loc:Nat->Loc}{w:World}(g:Good cx.eT X (aB O st loc w)):∀{t:Ty} {cs cs':List C} {x:D t} {vs:List Value},kU st t cs=some (x,cs')->dq cx.eT (aB O st loc w) cs vs->
  ∃us vs',vs=us++vs'/\R cx.eT t x O w us/\dq cx.eT (aB O st loc w) cs' vs':=by
 have one:∀{t:Ty} {c:C} {cs cs':List C} {x:D t} {vs:List Value},(match Hh st t c with|some x=>some (x,cs)|none=>none)=some (x,cs')->dq cx.eT (aB O st loc w) (c :: cs) vs->
   ∃us vs',vs=us++vs'/\R cx.eT t x O w us/\dq cx.eT (aB O st loc w) cs' vs':=by
  intro t c cs cs' x vs h hc;cases hc with
  |cons h1 h2 h3=>
   rename_i v vs0;split at h
   ·rename_i y hy
    cases h;exact⟨[v],vs0,rfl,(tO h2 (Ew g hy h1)).2,h3⟩
   ·cases h
 intro t;induction t with
 |prod a b iha ihb=>
  intro cs cs' x vs h hc;simp only[kU]at h;split at h
  ·rename_i y cs1 h1
   split at h
   ·rename_i z cs2 h2
    cases h;obtain⟨u1,v1,rfl,r1,k1⟩:=iha h1 hc;obtain⟨u2,v2,rfl,r2,k2⟩:=ihb h2 k1;exact⟨u1++u2,v2,by simp,⟨u1,u2,rfl,r1,r2⟩,k2⟩
   ·cases h
  ·cases h
 |unit=>
  intro cs cs' x vs h hc;simp only[kU]at h;cases h;exact⟨[],vs,rfl,rfl,hc⟩
 |bool=>intro cs cs' x vs h hc;cases cs with|nil=>simp[kU]at h|cons c cs=>exact one (t:=.bool) h hc
 |int k=>intro cs cs' x vs h hc;cases cs with|nil=>simp[kU]at h|cons c cs=>exact one (t:=.int k) h hc
 |str=>intro cs cs' x vs h hc;cases cs with|nil=>simp[kU]at h|cons c cs=>exact one (t:=.str) h hc
 |err=>intro cs cs' x vs h hc;cases cs with|nil=>simp[kU]at h|cons c cs=>exact one (t:=.err) h hc
 |er=>intro cs cs' x vs h hc;cases cs with|nil=>simp[kU]at h|cons c cs=>exact one (t:=.er) h hc
 |slice e _=>intro cs cs' x vs h hc;cases cs with|nil=>simp[kU]at h|cons c cs=>exact one (t:=.slice e) h hc
def BG{O:aD}{st:St}{loc:Nat->Loc}{w:World}(g:Good cx.eT X (aB O st loc w)){want:Ty}{c:bT}{x:D want}{v:Value}(h:Ft st want c=some x)
  (hc:e8 cx.eT (aB O st loc w) c v):VR cx.eT want x O w v:=by
 cases c with
 |one c=>exact Ew g h hc
 |agg cs=>
  simp only[Ft]at h;obtain⟨vs,rfl,hcs⟩:=hc;split at h
  ·cases h
  ·rename_i ho
   split at h
   ·rename_i y hy
    cases h;obtain⟨us,vs',rfl,r,k⟩:=Hj g hy hcs;cases k;unfold VR;rw[if_neg (by simp[ho])];exact⟨_,rfl,by simpa using r⟩
   ·cases h
def BH{O:aD}{st:St}{loc:Nat->Loc}{w:World}(g:Good cx.eT X (aB O st loc w)):∀{ts:List Ty} {vs:List bT} {ys:HL ts} {us:List Value},sa st ts vs=some ys->
  bW cx.eT (aB O st loc w) vs us->iO cx.eT O w ts ys us
 |[],[],_,_,_,.nil=>rfl
 |[t],[a],ys,_,h,.cons h1 .nil=>⟨_,rfl,BG g h h1⟩
 |t :: u :: r,a :: Nj,ys,_,h,.cons h1 h2=>by
  simp only[sa]at h;split at h
  ·rename_i x xs k1 k2
   cases h;exact⟨_,_,rfl,BG g k1 h1,BH g k2 h2⟩
  ·cases h
 |[],_ :: _,_,_,h,_=>by simp[sa]at h
 |[_],[],_,_,h,_=>by simp[sa]at h
 |[_],_ :: _ :: _,_,_,h,_=>by simp[sa]at h
 |_ :: _ :: _,[],_,_,h,_=>by simp[sa]at h
def wE{eT:TypeId}{O:aD}{w:World}{S:aY}(hS:S.w=w)(hA:∀b o,¬O b o->¬S.A b o):∀(ts:List Ty) (k:Nat) (xs:HL ts) (vs:List Value),iO eT O w ts xs vs->
  ∀t sv,look (pJ k ts xs) t=some sv->k<=t/\∃v,vs[t-k]?=some v/\cR eT S sv v
 |[],k,xs,vs,_,t,sv,h=>by simp[pJ,look]at h
 |[ty],k,x,_,⟨v,rfl,hv⟩,t,sv,h=>by
  simp only[pJ,bM]at h;split at h
  ·cases h
   rename_i e;subst e;exact⟨ai _,v,by simp,VR.frame hv fun b o _ ha hc=>⟨by rw[hS];exact hc,hA b o ha⟩⟩
  ·simp[look]at h
 |ty :: u :: r,k,xs,_,⟨v,vs',rfl,hv,hr⟩,t,sv,h=>by
  simp only[pJ,bM]at h;split at h
  ·cases h
   rename_i e;subst e;exact⟨ai _,v,by simp,VR.frame hv fun b o _ ha hc=>⟨by rw[hS];exact hc,hA b o ha⟩⟩
  ·obtain⟨h1,v',h2,h3⟩:=wE hS hA (u :: r) (k+1) xs.2 vs' hr t sv h
   refine⟨by omega,v',?_,h3⟩;rw[show t-k=(t-(k+1))+1 from by omega,List.getElem?_cons_succ];exact h2
def iO.length{eT:TypeId}{O:aD}{w:World}:∀{ts:List Ty} {xs:HL ts} {vs:List Value},iO eT O w ts xs vs->vs.length=ts.length
 |[],_,_,h=>by rw[show _=[]from h];rfl
 |[_],_,_,⟨_,rfl,_⟩=>rfl
 |_ :: u :: r,_,_,⟨_,_,rfl,_,h⟩=>by simp[iO.length h]
def wf:(t:Ty)->D t->Prop
 |.int k,x=>k.min<=x/\x<=k.max
 |.str,x=>x.length<=aN
 |.prod a b,x=>wf a x.1/\wf b x.2
 |.slice e,x=>x.length<=aN/\∀(i:Nat) y,x[i]?=some y->wf e y
 |_,_=>True
def gq:(ts:List Ty)->HL ts->Prop
 |[],_=>True
 |[t],x=>wf t x
 |t :: u :: r,xs=>wf t xs.1/\gq (u :: r) xs.2
def R.wf{eT:TypeId}:∀{t:Ty} {x:D t} {A:aD} {w:World} {vs:List Value},R eT t x A w vs->Vg.wf t x:=by
 intro t;induction t with
 |int k=>intro x A w vs h;exact h.2
 |str=>intro x A w vs h;exact h.2
 |prod a b iha ihb=>intro x A w vs h;obtain⟨_,_,_,h1,h2⟩:=h;exact⟨iha h1,ihb h2⟩
 |slice e ih=>
  intro x A w vs h;obtain⟨v,_,hl,h⟩:=h;refine⟨hl,fun i y hy =>?_⟩;rcases h with⟨rfl,_⟩|⟨b,o,cap,_,_,h⟩
  ·simp at hy
  ·obtain⟨us,h1,_⟩:=h i y hy;exact ih h1
 |_=>intro x A w vs h;trivial
def VR.wf{eT:TypeId}{t:Ty}{x:D t}{A:aD}{w:World}{v:Value}(h:VR eT t x A w v):Vg.wf t x:=(VR.cells h).wf
def iO.wf{eT:TypeId}{O:aD}{w:World}:∀{ts:List Ty} {xs:HL ts} {vs:List Value},iO eT O w ts xs vs->gq ts xs
 |[],_,_,_=>trivial
 |[_],_,_,⟨_,_,h⟩=>h.wf
 |_ :: _ :: _,_,_,⟨_,_,_,h,h'⟩=>⟨h.wf,iO.wf h'⟩
def Fv{B:Cx}{X:Ext}{Γ:List (FuncId×(Bool×bA))}{N:Nat}{f:FuncId}{fn:Func}{c:Code}(hok:ik P (nu B Γ N) X)(hf:P.funcs[f]?=some fn)(hb:fn.body=some c)(hn:(fn.name == "runtime.NumGoroutine")=false)
  (hN:fn.ntmps=N){ts rts:List Ty}(anns:HL ts->eo)(hts:ts.length<=N){pre:HL ts->Prop}{post:HL ts->HL rts->Prop}
  (h:∀xs,gq ts xs->pre xs->(Et B Γ N (anns xs) fn.results.toList c ts rts post xs).holds) :
  cG P B.eT X f ts rts pre post:=by
 refine⟨⟨fn,hf,by rw[hb];rfl,hn⟩,fun O w xs vs hG hO ha hp =>?_⟩;have g0:Good (nu B Γ N).eT X (aB O (mJ ts xs) (fun _=>default) w):=
  ⟨fun n oc h=>by simp[aB,mJ,look]at h,fun n m oc oc' b h=>by simp[aB,mJ,look]at h,fun n oc b off h=>by simp[aB,mJ,look]at h,hG,fun b hb ⟨n,oc,h,_⟩=>by simp[aB,mJ,look]at h⟩
 have hA0:∀b o,¬O b o->¬(aB O (mJ ts xs) (fun _=>default) w).A b o:=by
  rintro b o h (k|⟨n,oc,k,_⟩)
  ·exact h k
  ·simp[aB,mJ,look]at k
 refine bz (pb hok hf hb hN.symm (anns xs) (by simpa[ha.length,hN]using hts) g0 hO ?_ (h xs ha.wf hp)) ?_
 ·intro t sv ht
  obtain⟨_,v,h1,h2⟩:=wE (eT:=B.eT) (S:=aB O (mJ ts xs) (fun _=>default) w) rfl hA0 ts 0 xs vs ha t sv ht;exact⟨v,by simpa using h1,h2⟩
 ·rintro e w' ⟨vs',us,st',loc',rfl,h1,h2,h3,h4⟩
  split at h1
  ·rename_i ys hys
   refine⟨us,ys,rfl,h1,BH h3 hys h2,h4.os,h4.output,h4.size,fun k hk=>h4.block k hk ?_⟩;rintro⟨n,oc,k,_⟩;simp[aB,mJ,look]at k
  ·exact h1.elim
def iP:aD:=fun _ _=>False
def outer(lend:Bool)(A:aD):aD:=match lend with
 |true=>iP
 |false=>A
def BI{O:aD}{st:St}{loc:Nat->Loc}{w:World}(g:Good cx.eT X (aB O st loc w)){lend:Bool}{t:Ty}{a:bT}{x:D t}{v:Value}(h:Fs lend st t a=some x)
  (ha:e8 cx.eT (aB O st loc w) a v):VR cx.eT t x (outer lend (aB O st loc w).A) w v:=by
 have base:nq t a=some x->VR cx.eT t x (outer lend (aB O st loc w).A) w v:=by
  intro h;refine VR.Fk (iI h ha) fun b o k =>?_
  cases lend with
  |true=>exact id
  |false=>exact k
 unfold Fs at h;split at h
 ·rename_i e n x' heq
  unfold rD at h;simp only[xC]at h;split at h
  ·rename_i e' ys hob
   split at h
   ·cases h;rename_i hb
    exact iH hb _ (VR.Fk (Eu g hob ha) fun _ _ _=>id)
   ·cases h
  ·cases h
 ·exact VR.Fk (yP g h ha) fun _ _ _=>id
 ·exact base h
def yQ{O:aD}{st:St}{loc:Nat->Loc}{w:World}(g:Good cx.eT X (aB O st loc w)){lend:Bool}:∀{ts:List Ty} {Nj:List bT} {xs:HL ts} {vs:List Value},kT lend st ts Nj=some xs->
  bW cx.eT (aB O st loc w) Nj vs->iO cx.eT (outer lend (aB O st loc w).A) w ts xs vs
 |[],[],_,_,_,.nil=>rfl
 |[t],[a],xs,_,h,.cons h1 .nil=>⟨_,rfl,BI g h h1⟩
 |t :: u :: r,a :: Nj,xs,_,h,.cons h1 h2=>by
  simp only[kT]at h;split at h
  ·rename_i x xs k1 k2
   cases h;exact⟨_,_,rfl,BI g k1 h1,yQ g k2 h2⟩
  ·cases h
 |[],_ :: _,_,_,h,_=>by simp[kT]at h
 |[_],[],_,_,h,_=>by simp[kT]at h
 |[_],_ :: _ :: _,_,_,h,_=>by simp[kT]at h
 |_ :: _ :: _,[],_,_,h,_=>by simp[kT]at h
def ue{eT:TypeId}{S:aY}{O:aD}{w:World}(hS:S.w=w):∀{ts:List Ty} {ys:HL ts} {us:List Value},(gR ts=true\/O=S.A)->iO eT O w ts ys us->bW eT S (mm ts ys) us
 |[],_,_,_,h=>by rw[show _=[]from h];exact .nil
 |[t],y,_,hl,⟨v,rfl,hv⟩=>by
  refine .cons ?_ .nil;subst hS;rcases hl with hl|hl
  ·simp only[gR,kl]at hl
   exact VR.of_flat hl hv
  ·subst hl;exact hv
 |t :: u :: r,ys,_,hl,⟨v,vs',rfl,hv,hr⟩=>by
  refine .cons ?_ (ue hS ?_ hr)
  ·subst hS
   rcases hl with hl|hl
   ·simp only[gR,ae]at hl
    exact VR.of_flat hl.1 hv
   ·subst hl;exact hv
  ·rcases hl with hl|hl
   ·simp only[gR,ae]at hl ⊢;exact .inl hl.2
   ·exact .inr hl
def MI{O:aD}{st:St}{loc:Nat->Loc}{w:World}{eT:TypeId}(g:Good eT X (aB O st loc w))(hO:dA O w):dA (aB O st loc w).A w:=by
 rintro b off (h|⟨n,oc,h1,h2,_⟩)
 ·exact hO b off h
 ·exact(g.obj n oc h1).2.inside b h2
def yR{eT:TypeId}{f:FuncId}{ts rts:List Ty}{pre:HL ts->Prop}{post:HL ts->HL rts->Prop}(h:cG P eT X f ts rts pre post)
  {O:aD}{st:St}{loc:Nat->Loc}{w:World}{args:List bT}{vs:List Value}{xs:HL ts}(hx:kT (gR rts) st ts args=some xs)(hp:pre xs)
  {K:SV->St->VC}(hK:∀ys,post xs ys->(K (oO (mm rts ys)) st).holds)
  (g:Good eT X (aB O st loc w))(hO:dA O w)(ha:bW eT (aB O st loc w) args vs) :
  Calls P f vs.toArray w fun e w'=>∃v sv st' loc',e=.returned v/\(K sv st').holds/\st'.env=st.env/\(true=true->Below w.heap.size w w')/\Good eT X (aB O st' loc' w')/\
   Tr (aB O st loc w) (aB O st' loc' w')/\cR eT (aB O st' loc' w') sv v:=by
 have g':Good (Cx.mk eT [] [] [] 0 [] [] [] false [] []).eT X (aB O st loc w):=g;have hOut:dA (outer (gR rts) (aB O st loc w).A) w:=by
  intro b off hb;cases hf:gR rts with
  |true=>rw[hf]at hb;exact hb.elim
  |false=>rw[hf]at hb;exact MI g hO b off hb
 refine bz (h.ok _ w xs vs g.gl.1 hOut (yQ g' hx ha) hp) ?_;rintro e w' ⟨us,ys,rfl,h1,h2,h3⟩;obtain⟨t,g2⟩:=lE (S':=aB O st loc w') g rfl rfl rfl rfl h3;refine⟨_,_,st,loc,rfl,hK ys h1,rfl,fun _=>h3,g2,t,sb (ue rfl ?_ h2)⟩;cases hf:gR rts with
 |true=>exact .inl rfl
 |false=>exact .inr (by simp only[outer];funext b off;simp[aY.A,aB])
def wF{O:aD}{st:St}{loc:Nat->Loc}{w:World}(g:Good cx.eT X (aB O st loc w))(c:C) :
  Tr (aB O st loc w) (aB O (r9 st c).2 loc w)/\Good cx.eT X (aB O (r9 st c).2 loc w)/\(r9 st c).2.env=st.env/\
   ∀v,CR cx.eT (aB O st loc w) c v->CR cx.eT (aB O (r9 st c).2 loc w) (r9 st c).1 v:=by
 unfold r9;split
 ·rename_i n
  split
  ·rename_i t xs hob
   obtain⟨h1,h2⟩:=jC g n;exact⟨h1,h2,rfl,fun v hv=>tU g hob hv⟩
  ·exact⟨Tr.refl _,g,rfl,fun v hv=>hv⟩
 ·rename_i n
  split
  ·rename_i t xs hob
   obtain⟨h1,h2⟩:=jC g n;refine⟨h1,h2,rfl,fun v hv=>Ev g hob hv fun b hb o =>?_⟩;rintro(hA'|⟨m,oc,k1,k2,k3⟩)
   ·exact g.out n _ b o hob hb hA'
   ·simp only[aB,aS]at k1 k2
    rw[iJ]at k1;split at k1
    ·cases k1
    ·rename_i h8;exact h8 (g.apart n m _ _ b hob k1 hb k2)
  ·exact⟨Tr.refl _,g,rfl,fun v hv=>hv⟩
 ·exact⟨Tr.refl _,g,rfl,fun v hv=>hv⟩
def uf{O:aD}{loc:Nat->Loc}{w:World}:∀(cs:List C) {st:St},Good cx.eT X (aB O st loc w)->
  Tr (aB O st loc w) (aB O (qC st cs).2 loc w)/\Good cx.eT X (aB O (qC st cs).2 loc w)/\(qC st cs).2.env=st.env/\
   ∀vs,dq cx.eT (aB O st loc w) cs vs->dq cx.eT (aB O (qC st cs).2 loc w) (qC st cs).1 vs
 |[],st,g=>⟨Tr.refl _,g,rfl,fun vs h=>h⟩
 |c :: cs,st,g=>by
  obtain⟨t1,g1,e1,k1⟩:=wF g c;obtain⟨t2,g2,e2,k2⟩:=uf cs g1;refine⟨t1.trans t2,g2,e2.trans e1,fun vs h =>?_⟩;cases h with
  |cons h1 h2 h3=>exact .cons ((k1 _ h1).tr t2) h2 (k2 _ (h3.tr t1))
def qE{O:aD}{st:St}{loc:Nat->Loc}{w:World}(g:Good cx.eT X (aB O st loc w))(x:bT) :
  Tr (aB O st loc w) (aB O (vf st x).2 loc w)/\Good cx.eT X (aB O (vf st x).2 loc w)/\(vf st x).2.env=st.env/\
   ∀v,e8 cx.eT (aB O st loc w) x v->e8 cx.eT (aB O (vf st x).2 loc w) (vf st x).1 v:=by
 cases x with
 |one c=>exact wF g c
 |agg cs=>
  obtain⟨t1,g1,e1,k1⟩:=uf cs g;exact⟨t1,g1,e1,fun v ⟨vs,h1,h2⟩=>⟨vs,h1,k1 _ h2⟩⟩
def Fw{O:aD}{st:St}{loc:Nat->Loc}{w:World}(g:Good cx.eT X (aB O st loc w))(lend:Bool)(x:bT) :
  Tr (aB O st loc w) (aB O (xS lend st x).2 loc w)/\Good cx.eT X (aB O (xS lend st x).2 loc w)/\(xS lend st x).2.env=st.env/\
   ∀v,e8 cx.eT (aB O st loc w) x v->e8 cx.eT (aB O (xS lend st x).2 loc w) (xS lend st x).1 v:=by
 cases lend with
 |false=>cases x <;> exact qE g _
 |true=>
  cases x with
  |one c=>exact⟨Tr.refl _,g,rfl,fun v hv=>hv⟩
  |agg cs=>exact qE g _
def wG{O:aD}{loc:Nat->Loc}{w:World}(lend:Bool):∀(xs:List bT) {st:St},Good cx.eT X (aB O st loc w)->
  Tr (aB O st loc w) (aB O (pa lend st xs).2 loc w)/\Good cx.eT X (aB O (pa lend st xs).2 loc w)/\(pa lend st xs).2.env=st.env/\
   ∀vs,bW cx.eT (aB O st loc w) xs vs->bW cx.eT (aB O (pa lend st xs).2 loc w) (pa lend st xs).1 vs
 |[],st,g=>⟨Tr.refl _,g,rfl,fun vs h=>h⟩
 |x :: xs,st,g=>by
  obtain⟨t1,g1,e1,k1⟩:=Fw g lend x;obtain⟨t2,g2,e2,k2⟩:=wG lend xs g1;refine⟨t1.trans t2,g2,e2.trans e1,fun vs h =>?_⟩;cases h with
  |cons h1 h3=>exact .cons ((k1 _ h1).tr t2) (k2 _ (h3.tr t1))
def yS{eT:TypeId}{f:FuncId}{q:Bool}{sp:bA}{lend:Bool}
  (h:∀O st loc w args vs K,(sp args st K).holds->Good eT X (aB O st loc w)->dA O w->bW eT (aB O st loc w) args vs->
   Calls P f vs.toArray w fun e w'=>∃v sv st' loc',e=.returned v/\(K sv st').holds/\st'.env=st.env/\(q=true->Below w.heap.size w w')/\Good eT X (aB O st' loc' w')/\
    Tr (aB O st loc w) (aB O st' loc' w')/\cR eT (aB O st' loc' w') sv v)
  (O:aD)(st:St)(loc:Nat->Loc)(w:World)(args:List bT)(vs:List Value)(K:SV->St->VC)(hs:(sp (pa lend st args).1 (pa lend st args).2 K).holds)
  (g:Good eT X (aB O st loc w))(hO:dA O w)(ha:bW eT (aB O st loc w) args vs) :
  Calls P f vs.toArray w fun e w'=>∃v sv st' loc',e=.returned v/\(K sv st').holds/\st'.env=st.env/\(q=true->Below w.heap.size w w')/\Good eT X (aB O st' loc' w')/\
   Tr (aB O st loc w) (aB O st' loc' w')/\cR eT (aB O st' loc' w') sv v:=by
 have g':Good (Cx.mk eT [] [] [] 0 [] [] [] false [] []).eT X (aB O st loc w):=g;obtain⟨t1,g1,e1,k1⟩:=wG lend args g';refine bz (h O _ loc w _ vs K hs g1 hO (k1 _ ha)) ?_;rintro e w' ⟨v,sv,st',loc',h1,h2,h3,h4,h5,h6,h7⟩;exact⟨v,sv,st',loc',h1,h2,h3.trans e1,h4,h5,t1.trans h6,h7⟩
def gi{eT:TypeId}{f:FuncId}{ts rts:List Ty}{pre:HL ts->Prop}{post:HL ts->HL rts->Prop}(h:cG P eT X f ts rts pre post) :
  cF P eT X f true (mn ts rts pre post):=by
 refine⟨h.fn,yS (lend:=gR rts) (sp:=fun args st K=>match kT (gR rts) st ts args with
  |some xs =>.and (pre xs) (.all (HL rts) fun ys =>.imp (post xs ys) (K (oO (mm rts ys)) st))
  |none =>.ff) fun O st loc w args vs K hs g hO ha =>?_⟩
 split at hs
 ·rename_i xs hx
  exact yR h hx hs.1 (fun ys hy=>hs.2 ys hy) g hO ha
 ·exact hs.elim
def aK{eT:TypeId}{f:FuncId}{ts rts:List Ty}{pre:HL ts->Prop}{g:HL ts->HL rts}(h:cG P eT X f ts rts pre (fun xs ys=>ys=g xs)) :
  cF P eT X f true (dj ts rts pre g):=by
 refine⟨h.fn,yS (lend:=gR rts) (sp:=fun args st K=>match kT (gR rts) st ts args with
  |some xs =>.and (pre xs) (K (oO (mm rts (g xs))) st)
  |none =>.ff) fun O st loc w args vs K hs hg hO ha =>?_⟩
 split at hs
 ·rename_i xs hx
  exact yR h hx hs.1 (fun ys hy=>by rw[hy];exact hs.2) hg hO ha
 ·exact hs.elim
def La{B:Cx}{N:Nat}(h:TyOK P B):ik P (nu B [] N) X:=
 {fit:=h.fit,kP:=h.kP,gM:=h.gM,mixed:=h.mixed,arr:=h.arr,p5:=h.p5,eqs:=h.eqs,ld:=h.ld,mQ:=h.mQ,oD:=h.oD,calls:=fun f q sp hl=>by simp[nu,look]at hl}
def Jt{B:Cx}{Γ:List (FuncId×(Bool×bA))}{N:Nat}{f:FuncId}{q:Bool}{sp:bA}(h:cF P B.eT X f q sp)(hΓ:ik P (nu B Γ N) X):ik P (nu B ((f,q,sp) :: Γ) N) X:=
 {fit:=hΓ.fit,kP:=hΓ.kP,gM:=hΓ.gM,mixed:=hΓ.mixed,arr:=hΓ.arr,p5:=hΓ.p5,eqs:=hΓ.eqs,ld:=hΓ.ld,mQ:=hΓ.mQ,oD:=hΓ.oD,calls:=fun f' q' sp' hl=>by
   simp only[nu,bM]at hl;split at hl
   ·rename_i e;subst e;cases hl;exact h
   ·exact hΓ.calls f' q' sp' hl}
end
def Ty.plain:Ty->Bool
 |.err|.er=>false
 |.prod a b=>a.plain&&b.plain
 |.slice e=>e.plain
 |_=>true
def Ty.low:Ty->Bool
 |.slice e=>aq 0 e.size&&e.low
 |.prod a b=>a.low&&b.low
 |_=>true
section
variable{H:Type}{enc:TypeId×Value->H}{P:Program}{w:World}{base:Nat}{sp:Nat->Bool}{held:Bool}{eT:TypeId}
def Fit.cellsOf{t:TypeId}{ty:Ty}{i:TypeInfo}{d:TypeDesc}(h:Fit P t ty i d):P.cellsOf t=ty.size:=by
 unfold Program.cellsOf;rw[h.info];exact h.size
def Dv{f:TypeId->Ty->Bool}{cs:List Value}{fuel:Nat}
  (ih:∀t ty,f t ty=true->P.cellsOf t=ty.size/\∀us d ps,ty.plain=true->ty.low=true->bf enc P w base sp held fuel t us=some (d,ps)->∃x,R eT ty x iP w us) :
  ∀(gs:List Field) (off:Nat) (ty:Ty) (xs:List (DataW H×List MemPlace)),da f gs off ty=true->ty.plain=true->ty.low=true->
   gs.mapM (fun f=>bf enc P w base sp held fuel f.type ((cs.drop f.offset).take (P.cellsOf f.type)))=some xs->cs.length=off+ty.size->∃x,R eT ty x iP w (cs.drop off):=by
 intro gs;induction gs with
 |nil=>
  intro off ty xs h hp hs hm hl;cases ty <;> simp[da]at h;refine⟨(),?_⟩;show cs.drop off=[];exact List.drop_eq_nil_of_le (by simp[Ty.size]at hl;omega)
 |cons g gs ihg=>
  intro off ty xs h hp hs hm hl;cases ty <;> simp[da]at h;rename_i a b;obtain⟨⟨⟨h1,h2⟩,h3⟩,h4⟩:=h;simp only[Ty.plain,ae]at hp;simp only[Ty.size]at hl;rw[ed]at hm;obtain⟨k1,k2⟩:=ih _ _ h2;subst h1;rw[k1]at hm;cases hx:bf enc P w base sp held fuel g.type ((cs.drop g.offset).take a.size)with
  |none=>simp[hx]at hm
  |some y=>
   cases hxs:gs.mapM (fun f=>bf enc P w base sp held fuel f.type ((cs.drop f.offset).take (P.cellsOf f.type)))with
   |none=>simp[hx,hxs]at hm
   |some ys=>
    simp only[Ty.low,ae]at hs;obtain⟨x,rx⟩:=k2 _ y.1 y.2 hp.1 hs.1 hx;obtain⟨z,rz⟩:=ihg _ _ _ h4 hp.2 hs.2 hxs (by omega);refine⟨(x,z),_,_,?_,rx,rz⟩;rw[<-List.drop_drop,List.take_append_drop]
def Fx:∀(n:Nat) (t:TypeId) (ty:Ty),fits P n t ty=true->P.cellsOf t=ty.size/\∀fuel us d ps,ty.plain=true->ty.low=true->
  bf enc P w base sp held fuel t us=some (d,ps)->∃x,R eT ty x iP w us:=by
 intro n;induction n with
 |zero=>intro t ty h;simp[fits]at h
 |succ n ih=>
  intro t ty h;obtain⟨m,i,dsc,hm,fit,hsh⟩:=gW h;cases hm;refine⟨fit.cellsOf,fun fuel us d ps hp hs hd =>?_⟩;cases fuel with
  |zero=>simp[bf]at hd
  |succ fuel=>
   unfold bf at hd;rw[fit.fa]at hd;cases ty with
   |bool=>
    cases dsc <;> simp[bL]at hsh;split at hd
    case h_1 _ _ b _=>exact⟨b,rfl⟩
    all_goals simp_all
   |int k=>
    cases dsc <;> simp[bL]at hsh;subst hsh;split at hd
    case h_2 _ _ k1 k2 x h0=>
     cases h0;split at hd
     ·rename_i h1
      obtain⟨rfl,h1⟩:=h1;simp only[Lit.wf,ae,decide_eq_true_eq]at h1;exact⟨x,rfl,h1⟩
     ·cases hd
    all_goals simp_all
   |str=>
    cases dsc <;> simp[bL]at hsh;split at hd
    case h_4 _ _ s _=>
     split at hd
     ·rename_i h1
      refine⟨s.data.toList,?_,?_⟩
      ·rw[eh]
      ·unfold maxLen at h1
       unfold aN;rw[b8];exact h1
     ·cases hd
    all_goals simp_all
   |err=>simp[Ty.plain]at hp
   |er=>simp[Ty.plain]at hp
   |unit=>
    cases dsc <;> simp[bL]at hsh;rename_i fs;simp only at hd;split at hd
    ·rename_i hl
     rw[fit.cellsOf]at hl;refine⟨(),?_⟩;exact fr.1 hl
    ·cases hd
   |prod a b=>
    cases dsc <;> simp[bL]at hsh;rename_i fs;simp only at hd;split at hd
    ·rename_i hl
     rw[fit.cellsOf]at hl;cases hxs:fs.toList.mapM (fun f=>bf enc P w base sp held fuel f.type ((us.drop f.offset).take (P.cellsOf f.type)))with
     |none=>rw[hxs]at hd;simp at hd
     |some xs=>
      obtain⟨x,hx⟩:=Dv (fun t ty hf=>⟨(ih t ty hf).1,(ih t ty hf).2 fuel⟩) _ _ _ _ hsh hp hs hxs (by omega);exact⟨x,by simpa using hx⟩
    ·cases hd
   |slice e=>
    cases dsc <;> simp[bL]at hsh;rename_i te;simp only[Ty.low,ae]at hs;have hpos:=jb hs.1;obtain⟨hce,hel⟩:=ih te e hsh;split at hd
    case h_7=>exact⟨[],_,rfl,by simp[aN],.inl ⟨rfl,_,_,rfl⟩⟩
    case h_8 _ _ te' b l c h0=>
     cases h0;simp only at hd;split at hd
     case isFalse=>cases hd
     rename_i hcond;obtain⟨hb,hlc,hcm⟩:=hcond;obtain⟨es,hes,_⟩:=ek.1 hd;rw[hce]at hes;have hlen:=mapM_some_length hes;simp only[List.length_range]at hlen;by_cases hl0:l=0
     ·subst hl0
      exact⟨[],_,rfl,by simp[aN],.inl ⟨rfl,_,_,rfl⟩⟩
     have hspot:b.spot=none:=by
      have h1:=mapM_some_get hes 0 0 (by rw[List.getElem?_range (by omega)]);rw[List.getElem?_eq_getElem (by omega)]at h1;obtain⟨us,hu,hd1⟩:=ek.1 h1;obtain⟨_,q1,q2⟩:=World.cells?_some hu;have q3:=q2 0 hpos;rw[List.getElem?_eq_getElem (by omega)]at q3;have e0:(b.add (0*e.size)).add 0=b:=by simp[Addr.add]
      rw[e0]at q3;unfold World.cell? at q3;split at q3
      ·cases hb0:b.spot with
       |none=>rfl
       |some k=>rw[hb0]at q3;simp at q3
      ·cases q3
     obtain⟨bb,oo,so⟩:=b;simp only at hspot;subst hspot;have hget:∀i,i<l->∃x us,R eT e x iP w us/\Row iP w bb (oo+i*e.size) us:=by
      intro i hi;have h1:=mapM_some_get hes i i (by simp[hi]);rw[List.getElem?_eq_getElem (by omega)]at h1;obtain⟨us,hu,hd1⟩:=ek.1 h1;obtain⟨_,q1,q2⟩:=World.cells?_some hu;obtain⟨x,hx⟩:=hel fuel us (es[i]'(by omega)).1 (es[i]'(by omega)).2 hp hs.2 hd1;refine⟨x,us,hx,fun j u hj=>⟨?_,id⟩⟩;have hjl:j<us.length:=by
       rcases a8 j us.length with h|h
       ·exact h
       ·rw[List.getElem?_eq_none h]at hj;cases hj
      have:=q2 j (by omega);rw[bu,bu]at this;rw[this,hj]
     let xs:List (D e):=(b3 l).map fun i=>if h:i<l then(hget i h).choose else cE e
     have hxl:xs.length=l:=by simp[xs]
     have hxi:∀i y,xs[i]?=some y->∃us,R eT e y iP w us/\Row iP w bb (oo+i*e.size) us:=by
      intro i y hy;have hi:i<l:=by
       rcases a8 i l with h|h
       ·exact h
       ·rw[List.getElem?_eq_none (by omega)]at hy;cases hy
      have:xs[i]?=some (hget i hi).choose:=by simp[xs,hi]
      rw[this]at hy;cases hy;exact(hget i hi).choose_spec
     refine⟨xs,_,rfl,?_,.inr ⟨bb,oo,c,?_,?_,hxi⟩⟩
     ·rw[hxl];unfold maxLen at hcm;unfold aN;omega
     ·rw[hxl]
     ·rw[hxl];exact hlc
    all_goals simp_all
def Ju{n:Nat}{t:TypeId}{ty:Ty}(hf:fits P n t ty=true)(hp:ty.plain=true)(hlow:ty.low=true){r:Reach}{b:Nat}{v:Value}(hval:cm P w r b t v){d:DataW H}{ps:List MemPlace}
  (hd:DataW.Trod enc P w base sp held t v d ps):∃x,VR eT ty x iP w v:=by
 obtain⟨m,i,dsc,hm,fit,hsh⟩:=gW hf;obtain⟨fuel,hd⟩:=hd;have key:∃x,R eT ty x iP w v.cells.toList:=(Fx (eT:=eT) n t ty hf).2 fuel _ _ _ hp hlow hd
 unfold cm at hval;rw[fit.fa]at hval;have one:ty.one=true->b4 P w r b t v->(v.cells.toList=[v])->∃x,VR eT ty x iP w v:=by
  intro h1 h2 h3;rw[h3]at key;obtain⟨x,hx⟩:=key;exact⟨x,VR.bQ h1 hx⟩
 have agg:ty.one=false->(∃cs,v=.agg cs/\cs.size=P.cellsOf t/\Row.okWide P w r b t cs)->∃x,VR eT ty x iP w v:=by
  rintro h1 ⟨cs,rfl,_,ts,_,_,h2⟩;obtain⟨x,hx⟩:=key;refine⟨x,?_⟩;unfold VR;rw[if_neg (by simp[h1])];exact⟨cs,rfl,hx⟩
 cases ty with
 |err=>simp[Ty.plain]at hp
 |er=>simp[Ty.plain]at hp
 |prod a b=>cases dsc <;> simp[bL]at hsh;exact agg rfl hval
 |unit=>cases dsc <;> simp[bL]at hsh;exact agg rfl hval
 |bool=>
  cases dsc <;> simp[bL]at hsh;refine one rfl hval ?_;cases v <;> simp[b4,cn,fit.fa,bx]at hval ⊢
 |int k=>
  cases dsc <;> simp[bL]at hsh;refine one rfl hval ?_;cases v <;> simp[b4,cn,fit.fa,bx]at hval ⊢
 |str=>
  cases dsc <;> simp[bL]at hsh;refine one rfl hval ?_;cases v <;> simp[b4,cn,fit.fa,bx]at hval ⊢
 |slice e=>
  cases dsc <;> simp[bL]at hsh;refine one rfl hval ?_;cases v <;> simp[b4,cn,fit.fa,bx]at hval ⊢
def pK(P:Program)(n:Nat):List TypeId->List Ty->Bool
 |[],[]=>true
 |t :: ts,ty :: tys=>fits P n t ty&&ty.plain&&ty.low&&pK P n ts tys
 |_,_=>false
def Hk{n:Nat}{r:Reach}{b:Nat}:∀(ts:List TypeId) (tys:List Ty) (vs:List Value) (ds:List (DataW H)) (ps:List MemPlace),pK P n ts tys=true->
  (∀(j:Nat) t v,ts[j]?=some t->vs[j]?=some v->cm P w r b t v)->bg enc P w base sp held ts vs ds ps->∃xs,iO eT iP w tys xs vs:=by
 intro ts;induction ts with
 |nil=>
  intro tys vs ds ps hf hv h;cases tys <;> simp[pK]at hf;cases vs <;> cases ds <;> simp[bg]at h;exact⟨(),rfl⟩
 |cons t ts ih=>
  intro tys vs ds ps hf hv h;cases tys <;> simp[pK]at hf;rename_i ty tys;obtain⟨⟨⟨h1,h2⟩,h3⟩,h4⟩:=hf;cases vs <;> cases ds <;> simp[bg]at h;rename_i v vs d ds;obtain⟨p,hp,q,hq,_⟩:=h;obtain⟨x,hx⟩:=Ju (eT:=eT) h1 h2 h3 (hv 0 t v rfl rfl) hp;obtain⟨xs,hxs⟩:=ih tys vs ds q h4 (fun j t' v' h1 h2=>hv (j+1) t' v' h1 h2) hq;cases tys with
  |nil=>exact⟨x,v,by rw[show vs=[]from hxs],hx⟩
  |cons ty' tys=>exact⟨(x,xs),v,vs,rfl,hx,hxs⟩
def Fy(hl:laidOutB P=true){W W':World}(hb:Below W.heap.size W W'):∀(ts:List TypeId) (vs:List Value) (ds:List (DataW H)) (ps:List MemPlace),(ts.all fun t=>P.readableRec t&&aq t P.types.size)=true->
  bg enc P W 0 (fun _=>true) true ts vs ds ps->(∀x∈ps,x.block<W.heap.size)->bg enc P W' 0 (fun b=>decide (b<W.heap.size)) true ts vs ds ps:=by
 intro ts;induction ts with
 |nil=>intro vs ds ps _ h _;cases vs <;> cases ds <;> simp[bg]at h ⊢;exact h
 |cons t ts ih=>
  intro vs ds ps hr h hlt;simp only[dn,ae]at hr;cases vs <;> cases ds <;> simp only[bg]at h ⊢;rename_i v vs d ds;obtain⟨p,q,hp,hq,rfl⟩:=h;exact⟨p,q,WideElems.Trod_stays hl hr.1.1 (jb hr.1.2) hp (fun x hx=>hb.same (hlt x (by simp[hx]))) (fun x hx=>by simpa using hlt x (by simp[hx])),ih vs ds q hr.2 hq (fun x hx=>hlt x (by simp[hx])),rfl⟩
def BJ:∀{ts:List TypeId} {vs:List Value} {ds:List (DataW H)} {ps:List MemPlace},bg enc P w base sp held ts vs ds ps->vs.length=ts.length/\ds.length=ts.length
 |[],[],[],_,_=>⟨rfl,rfl⟩
 |_ :: _,_ :: _,_ :: _,_,⟨_,_,_,h,_⟩=>by simp[BJ h]
def Hl{X:Ext}{C:Checked}{f:FuncId}{fn:Func}{s:ChangeSpec}{tys:List Ty}{pre:HL tys->Prop}(hs:s.vars=[])(hl:laidOutB C.prog=true)
  (hsp:∀ds:List (DataW H),ds.length=tys.length->s.fn H ds= {results:=[.lit (.bool true)],args:=ds})
  {n:Nat}(hf:pK C.prog n fn.params.toList tys=true)(hr:(fn.params.toList.all fun t=>C.prog.readableRec t&&aq t C.prog.types.size)=true)
  {tb:TypeId}(hres:fn.resultTypes= #[tb])(hb:C.prog.underlying tb=some .bool)
  (h:cG C.prog eT X f tys [.bool] pre (fun _ y=>y=true))
  {W:World}{base:Nat}{args:Array Value}{ds gs:List (DataW H)}{before:List MemPlace}
  (hval:∀(j:Nat) t v,fn.params[j]?=some t->args[j]?=some v->cm C.prog W .any base t v)
  (hW:DataW.Whole enc C.prog fn.params.toList s.vars false W args.toList ds gs before)
  (hG:X.rr W)(hpre:∀xs,iO eT iP W tys xs args.toList->pre xs) :
  Calls C.prog f args W fun e W'=>∃v,e=.returned v/\s.post enc C.prog fn false true false false W args v W':=by
 have hW0:=hW;obtain⟨p,q,hA,hV,rfl,_,_⟩:=hW;rw[hs]at hV;obtain⟨rfl,rfl⟩:gs=[]/\q=[]:=by cases gs <;> simp[DataW.TrodVars]at hV;exact⟨rfl,hV⟩
 obtain⟨xs,hxs⟩:=Hk (eT:=eT) _ _ _ _ _ hf (fun j t v h1 h2=>hval j t v (by rw[<-Array.getElem?_toList];exact h1) (by rw[<-Array.getElem?_toList];exact h2)) hA;have:=h.ok iP W xs args.toList hG (fun _ _ h=>h.elim) hxs (hpre xs hxs);rw[eh]at this;refine this.mono ?_;rintro e W' ⟨us,ys,rfl,rfl,hr',hbel⟩;obtain⟨u,rfl,hu⟩:=hr';have hu:u=.bool true:=by
  have:=VR.one rfl hu;simpa[R]using this
 subst hu;have hlen:ds.length=tys.length:=by
  have h1:=hxs.length;have h2:=BJ hA;omega
 simp only[cp]at hW0 ⊢;have hlt:∀x∈p,x.block<W.heap.size:=hW0.lt
 refine⟨_,rfl,ds,[],p,[],p,[],hW0,?_,?_,?_,hbel.frame _,fun hh=>by cases hh⟩
 ·rw[cp,hsp ds hlen,hres]
  exact⟨[],[],shut_bool hb true,rfl,rfl⟩
 ·rw[cp,hsp ds hlen]
  exact Fy hl hbel _ _ _ _ hr hA hlt
 ·rw[cp,hsp ds hlen,hs]
  rfl
end
def holds_of{v:VC}{p:Prop}(e:v.holds=p)(h:p):v.holds:=by rw[e];exact h
section
variable{A B:Prop}
theorem iD{p:Prop}[Decidable p](f:p->A)(g:¬p->B):(decide p=true->A)/\(decide p=false->B):=⟨fun h=>f (of_decide_eq_true h),fun h=>g (of_decide_eq_false h)⟩
def iL{a b:Int}(f:a<b->A)(g:b<=a->B):(decide (a<b)=true->A)/\(decide (a<b)=false->B):=iD f fun h=>g (Int.not_lt.1 h)
def iE{a b:Int}(f:a<=b->A)(g:b<a->B):(decide (a<=b)=true->A)/\(decide (a<=b)=false->B):=iD f fun h=>g (Int.not_le.1 h)
def iB{b:Bool}(f:b=false->A)(g:b=true->B):((!b)=true->A)/\((!b)=false->B):=⟨fun h=>f (bd b▸h),fun h=>g (Bool.not_eq_false' b▸h)⟩
theorem iQ{α:Type}[BEq α][LawfulBEq α]{a b:α}(f:a=b->A)(g:¬a=b->B):((a == b)=true->A)/\((a == b)=false->B):=⟨fun h=>f (eq_of_beq h),fun h=>g fun e=>by rw[e,beq_self_eq_true]at h;cases h⟩
theorem iN{α:Type}[BEq α][LawfulBEq α]{a b:α}(f:¬a=b->A)(g:a=b->B):((a != b)=true->A)/\((a != b)=false->B):=
 ⟨fun h=>f fun e=>(by rw[e,bne_self_eq_false]at h;cases h),fun h=>g (by simpa using h)⟩
end
def MJ:Ext where
 rel k t x l w:=match k with
  |0=>gK t x l w
  |1=>o1 t x l w
  |2=>p3 t x l w
  |_=>False
 inside {k t x l w} h:=by
  match k,h with
  |0,h=>exact gK.inside h
  |1,h=>exact o1.inside h
  |2,h=>exact p3.inside h
 ptr {k t x l w} hk h:=by
  match k,hk,h with
  |0,hk,_=>omega
  |1,hk,_=>omega
  |2,_,h=>obtain⟨rfl,b,p,v,h⟩:=h;exact⟨_,h.lv⟩
 deep:=Iff.rfl
 map:=Iff.rfl
 GJ:=Iff.rfl
 frame {k t x l w w'} h hb:=by
  match k,h with
  |0,h=>exact gK.frame h hb
  |1,h=>exact o1.frame h hb
  |2,h=>exact p3.frame h hb
 rr _:=True
 yu:=[]
 AV _ _ hb:=by cases hb
 vS _ _:=trivial
def codeOf(fn:Func):Code:=fn.body.getD .skip
def eC(B:Cx)(Γ:List (FuncId×(Bool×bA)))(fn:Func)(anns:eo)(ts rts:List Ty)(post:HL ts->HL rts->Prop)(xs:HL ts):VC:=
 Et B Γ fn.ntmps anns fn.results.toList (codeOf fn) ts rts post xs
def lS(fn:Func)(n:Nat):Bool:=fn.body.isSome&&!(fn.name == "runtime.NumGoroutine")&&Nat.ble n fn.ntmps
def bU(P:Program)(B:Cx)(X:Ext)(Γ:List (FuncId×(Bool×bA))):Prop:=∀N,ik P (nu B Γ N) X
section
variable{P:Program}{B:Cx}{X:Ext}{Γ:List (FuncId×(Bool×bA))}
def dk{f:FuncId}{fn:Func}{ts rts:List Ty}{pre:HL ts->Prop}{post:HL ts->HL rts->Prop}(hok:bU P B X Γ)(hf:P.funcs[f]?=some fn)(hc:lS fn ts.length=true)
  (anns:HL ts->eo)(h:∀xs,gq ts xs->pre xs->(eC B Γ fn (anns xs) ts rts post xs).holds):cG P B.eT X f ts rts pre post:=by
 simp only[lS,ae,bd]at hc;obtain⟨⟨h1,h2⟩,h3⟩:=hc;refine Fv (hok fn.ntmps) hf (c:=codeOf fn) ?_ h2 rfl anns (kN h3) h;unfold codeOf;cases hb:fn.body with
 |none=>rw[hb]at h1;cases h1
 |some c=>rfl
def cN(h:TyOK P B):bU P B X []:=fun _=>La h
def aU{f:FuncId}{q:Bool}{sp:bA}(h:cF P B.eT X f q sp)(hΓ:bU P B X Γ):bU P B X ((f,q,sp) :: Γ):=fun N=>Jt h (hΓ N)
def iR(B:Cx)(l:List Nat):Cx:={B with hint:=l}
def bU.hint{l:List Nat}(h:bU P B X Γ):bU P (iR B l) X Γ:=fun N=>
 {fit:=(h N).fit,kP:=(h N).kP,gM:=(h N).gM,mixed:=(h N).mixed,arr:=(h N).arr,p5:=(h N).p5,eqs:=(h N).eqs,ld:=(h N).ld,mQ:=(h N).mQ,oD:=(h N).oD,calls:=(h N).calls}
def Fz(B:Cx):Cx:={B with wr:=true}
def bU.wrap(h:bU P B X Γ):bU P (Fz B) X Γ:=fun N=>
 {fit:=(h N).fit,kP:=(h N).kP,gM:=(h N).gM,mixed:=(h N).mixed,arr:=(h N).arr,p5:=(h N).p5,eqs:=(h N).eqs,ld:=(h N).ld,mQ:=(h N).mQ,oD:=(h N).oD,calls:=(h N).calls}
def og{α:Type}{l:List (Nat×α)}{n:Nat}{x:α}(h:look l n=some x):(n,x)∈l:=by
 induction l with
 |nil=>cases h
 |cons p r ih=>
  obtain⟨m,y⟩:=p;rw[bM]at h;split at h
  ·rename_i e;subst e;cases h;simp
  ·exact List.mem_cons_of_mem _ (ih h)
def Hm(P:Program)(B:Cx)(n:Nat):Bool:=
 (B.τ.all fun p=>fits P n p.1 p.2)&&
 (match P.underlying B.eT with|some (.int .i64)=>true|_=>false)&&
 (match P.info? B.eT with|some i=>(match i.zero with|some (.int .i64 0)=>true|_=>false)|none=>false)&&
 P.follows .mixedOrders&&
 (B.uK.all fun p=>match P.underlying p.1 with|some (.array m e)=>ab m p.2.1&&ab e p.2.2|_=>false)&&
 (B.uK.all fun p=>match look B.τ p.2.2 with
  |some e=>(match P.info? p.1 with
   |some i=>(match i.zero with
    |some z=>me e p.2.1 z.cells.toList
    |none=>false)
   |none=>false)
  |none=>true)&&
 B.eqs.all (E4 P)&&B.ld.all (A4 P)&&
 (B.mQ.all fun p=>match P.underlying p.1 with
  |some (.map k e)=>ab k p.2.1&&ab e p.2.2&&(match P.underlying p.2.1 with|some .string=>true|_=>false)&&
   (match P.info? p.2.2 with
    |some i=>(match i.zero with|some (.agg _)=>true|_=>false)
    |none=>false)
  |_=>false)&&
 (B.oD.all fun p=>match P.info? p.1 with
  |some i=>(match i.zero with
   |some (.agg cs)=>(match cs.toList with
    |[.pointer none,.slice none 0 0]=>true
    |_=>false)
   |_=>false)
  |none=>false)
def Lb{n:Nat}(h:Hm P B n=true):TyOK P B:=by
 simp only[Hm,ae,cg]at h;obtain⟨⟨⟨⟨⟨⟨⟨⟨⟨h1,h2⟩,h3⟩,h4⟩,h5⟩,h6⟩,h7⟩,h8⟩,h9⟩,h10⟩:=h;refine⟨fun t ty hl=>⟨n,h1 _ (og hl)⟩,?_,?_,h4,fun t ht=>h7 t (qo ht),fun t ht=>h8 t (qo ht),fun t m e hl =>?_,fun t k e hl =>?_,fun t e hl =>?_,fun t m te e hl he =>?_⟩
 ·split at h2
  ·assumption
  ·cases h2
 ·split at h3
  ·rename_i i hi
   refine⟨i,hi,?_⟩;split at h3
   ·assumption
   ·cases h3
  ·cases h3
 ·have:=h5 _ (og hl)
  simp only at this;split at this
  ·rename_i m' e' hu
   simp only[ae]at this;rw[hu,ah this.1,ah this.2]
  ·cases this
 ·have:=h9 _ (og hl)
  simp only at this;split at this
  ·rename_i k' e' hu
   simp only[ae]at this;obtain⟨⟨⟨e1,e2⟩,e3⟩,e4⟩:=this;rw[hu,ah e1,ah e2];refine⟨rfl,?_,?_⟩
   ·split at e3
    ·assumption
    ·cases e3
   ·split at e4
    ·rename_i i hi
     split at e4
     ·rename_i cs hz;exact⟨i,cs,hi,hz⟩
     ·cases e4
    ·cases e4
  ·cases this
 ·have:=h10 _ (og hl)
  simp only at this;split at this
  ·rename_i i hi
   split at this
   ·rename_i cs hz
    split at this
    ·rename_i hr
     exact⟨i,hi,by rw[hz];congr 2;exact aj.1 hr⟩
    ·cases this
   ·cases this
  ·cases this
 ·have:=h6 _ (og hl)
  simp only[he]at this;split at this
  ·rename_i i hi
   split at this
   ·rename_i z hz
    exact⟨i,z,hi,hz,this⟩
   ·cases this
  ·cases this
end
def mo:Nat->List bT->List (Nat×SV)
 |_,[]=>[]
 |k,a :: r=>(k,.s a) :: mo (k+1) r
def fS(B:Cx)(Γ:List (FuncId×(Bool×bA)))(fn:Func)(anns:eo):bA:=fun args st K=>
 match Nat.ble args.length fn.ntmps with
 |true=>Fu (nu B Γ fn.ntmps) anns fn.results.toList (codeOf fn) {env:=mo 0 args,aC:=st.aC,next:=st.next} fun vs st'=>K (oO vs) {st' with env:=st.env}
 |false =>.ff
def pc{eT:TypeId}{S:aY}:∀{args:List bT} {vs:List Value} (k:Nat),bW eT S args vs->∀t sv,look (mo k args) t=some sv->k<=t/\∃v,vs[t-k]?=some v/\cR eT S sv v:=by
 intro args;induction args with
 |nil=>intro vs k _ t sv h;simp[mo,look]at h
 |cons a r ih=>
  intro vs k hr t sv h;cases hr with
  |cons h1 h2=>
   simp only[mo,bM]at h;split at h
   ·rename_i e
    cases h;subst e;exact⟨ai _,_,by simp,h1⟩
   ·rename_i e
    obtain⟨k1,v,k2,k3⟩:=ih (k+1) h2 t sv h;refine⟨by omega,v,?_,k3⟩;rw[show t-k=(t-(k+1))+1 by omega];simpa using k2
def fp{P:Program}{B:Cx}{X:Ext}{Γ:List (FuncId×(Bool×bA))}(hok:bU P B X Γ){f:FuncId}{fn:Func}(hf:P.funcs[f]?=some fn)(hg:lS fn 0=true)(anns:eo) :
  cF P B.eT X f false (fS B Γ fn anns):=by
 simp only[lS,ae,bd]at hg;obtain⟨⟨h1,h2⟩,_⟩:=hg;obtain⟨c,hc⟩:=Option.isSome_iff_exists.1 h1;refine⟨⟨fn,hf,by rw[hc];rfl,h2⟩,fun O st loc w args vs K hK g hO ha =>?_⟩;unfold fS at hK;split at hK
 case h_2=>exact hK.elim
 rename_i hlen;have hlen:=kN hlen;have hcode:codeOf fn=c:=by unfold codeOf;rw[hc];rfl
 rw[hcode]at hK;have:=pb (X:=X) (hok fn.ntmps) hf hc (by rfl) anns (O:=O) (loc:=loc) (w:=w) (args:=vs.toArray)
  (st:={env:=mo 0 args,aC:=st.aC,next:=st.next}) (by rw[bw,<-ha.len];exact hlen) g hO
  (fun t sv h=>by
   obtain⟨_,v,k1,k2⟩:=pc 0 ha t sv h;exact⟨v,by simpa using k1,k2⟩) hK
 refine this.mono ?_;rintro e w' ⟨rs,us,st',loc',he,hk,hr,g',tr⟩;exact⟨_,_,_,loc',he,hk,rfl,(fun h=>by cases h),g',tr,sb hr⟩
def MK(st:St)(t k:Nat):Nat:=
 match look st.env t with
 |some (.s (.one (.fn _ caps)))=>caps.getD k 0
 |_=>0
def M0(ty:Ty)(st:St)(n:Nat):D ty:=
 match look st.aC n with
 |some (.cells _ cs)=>match js ty cs with
  |some (x,_)=>x
  |none=>cE ty
 |_=>cE ty
def gA:List Cl->St->List bT->List bT×St
 |.d _ :: r,st,v :: vs=>match vf st v with
  |(v',st1)=>match gA r st1 vs with
   |(vs',st2)=>(v' :: vs',st2)
 |.obj _ :: r,st,v :: vs=>match gA r st vs with
  |(vs',st2)=>(v :: vs',st2)
 |.eS :: r,st,v :: vs=>match gA r st vs with
  |(vs',st2)=>(v :: vs',st2)
 |_,st,vs=>(vs,st)
def mV:List (Nat×OC)->List Nat->List (Nat×OC)
 |l,[]=>l
 |l,n :: r=>mV (nZ l n) r
def kf:Ob->Ob->Bool
 |.box T _,.box T' _=>ab T T'
 |.ext k t,.ext k' t'=>ab k k'&&Ty.beq t t'
 |.row true t,.row true t'=>Ty.beq t t'
 |_,_=>false
def jr:List Ob->List Ob->List Nat->Nat->List Nat
 |o :: os,o' :: os',n :: ns,b=>(match kf o o' with|true=>n|false=>b) :: jr os os' ns (b+1)
 |_,_ :: os',_,b=>b :: jr [] os' [] (b+1)
 |_,[],_,_=>[]
def xT:Nat->List Ob->List Ob->List (Nat×Nat)
 |k,o :: os,o' :: os'=>match kf o o' with
  |true=>(k,k) :: xT (k+1) os os'
  |false=>xT (k+1) os os'
 |_,_,_=>[]
def qF:Nat->List Ob->List Ob->List Nat->Bool
 |k,o :: os,o' :: os',n :: ns=>(match kf o o' with|true=>ab n k|false=>true)&&qF (k+1) os os' ns
 |_,_,_,_=>true
structure Alt (aG:List Ob) (args:List Cl):Type 1 where
 cv:Bool:=false
 bH:List Ob
 res:List Cl
 ok:CD args->PD aG->Prop:=fun _ _=>True
 out:CD args->PD aG->PD bH
 ret:CD args->PD aG->CD res
section
variable{aG:List Ob}{args:List Cl}
def AJ(al:Alt aG args)(a:CD args)(x:PD aG)(ν:List Nat)(st:St)(K:SV->St->VC):VC:=
 match nodupB (jr aG al.bH ν st.next)&&fX (st.next+al.bH.length) (jr aG al.bH ν st.next)with
 |true =>.imp (al.ok a x) (K (oO (rW (eB al.bH (al.out a x) (jr aG al.bH ν st.next)) al.res (al.ret a x)))
   {env:=st.env,aC:=ib (eB al.bH (al.out a x) (jr aG al.bH ν st.next)) al.bH (al.out a x) (jr aG al.bH ν st.next)++mV st.aC ν,next:=st.next+al.bH.length})
 |false =>.ff
def sd(a:CD args)(x:PD aG)(ν:List Nat)(st:St)(K:SV->St->VC):List (Alt aG args)->VC
 |[] =>.leaf True
 |[al]=>AJ al a x ν st K
 |al :: al2 :: r =>.both (AJ al a x ν st K) (sd a x ν st K (al2 :: r))
def bF(aG:List Ob)(args:List Cl)(pre:CD args->PD aG->Prop)(alts:List (Alt aG args)):bA:=fun Nj st K=>
 match gA args st Nj with
 |(Nj,st)=>match Kv aG args Nj st.aC []with
  |some ν=>match nodupB ν,iK false st.aC aG ν args Nj,dr false st.aC aG ν aG ν with
   |true,some a,some x=>Jp (jc aG x args Nj++fk aG x st.aC aG ν) (.and (pre a x) (sd a x ν st K alts))
   |_,_,_ =>.ff
  |none =>.ff
def gC(aG:List Ob)(args:List Cl)(a:CD args)(x:PD aG):St:=
 {env:=mo 0 (rW (eB aG x (upto 0 aG.length)) args a),aC:=ib (eB aG x (upto 0 aG.length)) aG x (upto 0 aG.length),next:=aG.length}
def oP(a:CD args)(x:PD aG)(vs:List bT)(st:St):List (Alt aG args)->VC
 |[] =>.ff
 |al :: r=>match gA al.res st vs with
  |(vs',st')=>match Kv al.bH al.res vs' st'.aC (xT 0 aG al.bH)with
   |some ν=>match nodupB ν&&(qF 0 aG al.bH ν&&(!al.cv || (oL aG&&(eu al.bH&&fH al.res)))),iK al.cv st'.aC al.bH ν al.res vs',dr al.cv st'.aC al.bH ν al.bH ν with
    |true,some b,some y =>.leaf (BA (jc al.bH y al.res vs'++fk al.bH y st'.aC al.bH ν++[al.ok a x/\y=al.out a x/\b=al.ret a x]))
    |_,_,_=>oP a x vs st r
   |none=>oP a x vs st r
def dW(B:Cx)(Γ:List (FuncId×(Bool×bA)))(fn:Func)(anns:eo)(aG:List Ob)(args:List Cl)(alts:List (Alt aG args))(a:CD args)(x:PD aG):VC:=
 Fu (nu B Γ fn.ntmps) anns fn.results.toList (codeOf fn) (gC aG args a x) fun vs st'=>oP a x vs st' alts
def gr:(cls:List Cl)->CD cls->Prop
 |[],_=>True
 |.d t :: r,x=>wf t x.1/\gr r x.2
 |.obj _ :: r,x=>gr r x
 |.eS :: r,x=>gr r x
end
section
variable{eT:TypeId}{X:Ext}
def nv{k:Nat}:∀{l:List Nat} {n:Nat},fX k l=true->n∈l->n<k
 |[],_,_,h=>by simp at h
 |m :: r,n,h,hn=>by
  simp only[fX,ae]at h;rcases ag.1 hn with e|hn
  ·rw[e];exact jb h.1
  ·exact nv h.2 hn
def jm(m:Nat):∀(ns:List Nat) (l:List (Nat×OC)),look (mV l ns) m=if m∈ns then none else look l m
 |[],l=>by simp[mV]
 |n :: r,l=>by
  simp only[mV];rw[jm m r,iJ];by_cases h1:m∈r
  ·simp[h1]
  ·by_cases h2:n=m
   ·subst h2;simp
   ·have:¬m=n:=fun e=>h2 e.symm
    simp[h1,h2,this]
def mW:∀{aG bH:List Ob} {ν:List Nat} {b i n:Nat},(jr aG bH ν b)[i]?=some n->
  (∃o o',aG[i]?=some o/\bH[i]?=some o'/\kf o o'=true/\ν[i]?=some n)\/b<=n
 |aG,[],ν,b,i,n,h=>by
  cases aG <;> cases ν <;> simp[jr]at h
 |[],o' :: os',ν,b,i,n,h=>by
  simp only[jr]at h;cases i with
  |zero=>simp at h;exact .inr (by omega)
  |succ i=>
   rcases mW (aG:=[]) (ν:=[]) (by simpa using h)with⟨o,_,h1,_⟩|h1
   ·simp at h1
   ·exact .inr (by omega)
 |o :: os,o' :: os',[],b,i,n,h=>by
  simp only[jr]at h;cases i with
  |zero=>simp at h;exact .inr (by omega)
  |succ i=>
   rcases mW (aG:=[]) (ν:=[]) (by simpa using h)with⟨o,_,h1,_⟩|h1
   ·simp at h1
   ·exact .inr (by omega)
 |o :: os,o' :: os',n0 :: ns,b,i,n,h=>by
  simp only[jr]at h;cases i with
  |zero=>
   simp only[List.getElem?_cons_zero,dp]at h;split at h
   ·rename_i hk;exact .inl ⟨o,o',rfl,rfl,hk,by simp[h]⟩
   ·exact .inr (by omega)
  |succ i=>
   rcases mW (by simpa using h)with⟨a,a',h1,h2,h3⟩|h1
   ·exact .inl ⟨a,a',by simpa using h1,by simpa using h2,by simpa using h3⟩
   ·exact .inr (by omega)
def mq:∀{aG bH:List Ob} {ν:List Nat} {b:Nat},(jr aG bH ν b).length=bH.length
 |aG,[],ν,b=>by cases aG <;> cases ν <;> rfl
 |[],o' :: os',ν,b=>by simp[jr,mq]
 |o :: os,o' :: os',[],b=>by simp[jr,mq]
 |o :: os,o' :: os',n0 :: ns,b=>by simp[jr,mq]
def wH:∀{aG bH:List Ob} {ν:List Nat} {k i n:Nat} {o o':Ob},qF k aG bH ν=true->aG[i]?=some o->bH[i]?=some o'->kf o o'=true->ν[i]?=some n->n=k+i
 |[],_,_,_,_,_,_,_,_,h,_,_,_=>by simp at h
 |_ :: _,[],_,_,_,_,_,_,_,_,h,_,_=>by simp at h
 |_ :: _,_ :: _,[],_,_,_,_,_,_,_,_,_,h=>by simp at h
 |a :: os,a' :: os',m :: ns,k,0,n,o,o',h,h1,h2,h3,h4=>by
  simp at h1 h2 h4;subst h1;subst h2;subst h4;simp only[qF,h3,ae]at h;have:=ah h.1;omega
 |a :: os,a' :: os',m :: ns,k,i+1,n,o,o',h,h1,h2,h3,h4=>by
  simp only[qF,ae]at h;have:=wH h.2 (by simpa using h1) (by simpa using h2) h3 (by simpa using h4);omega
def yT:∀{l:List Ob} {o:Ob} {t:Ty},oL l=true->o∈l->o≠.tok t
 |[],_,_,_,h=>by simp at h
 |a :: r,o,t,h,ho=>by
  rcases ag.1 ho with e|ho
  ·subst e;intro e;subst e;simp[oL]at h
  ·exact yT (by cases a <;> simp_all [oL]) ho
def tx{S:aY}{F:Nat->Value->Prop}:∀{cls:List Cl} {x:CD cls} {vs:List Value},o7 eT S F cls x vs->gr cls x
 |[],_,_,_=>trivial
 |.d t :: r,x,v :: vs,h=>⟨h.1.wf,tx h.2⟩
 |.obj k :: r,x,v :: vs,h=>tx (cls:=r) h.2
 |.eS :: r,x,v :: vs,h=>tx (cls:=r) h.2
def qG{S:aY}{F:Nat->Value->Prop}:∀{cls:List Cl} {x:CD cls} {vs:List Value},o7 eT S F cls x vs->vs.length=cls.length
 |[],_,_,h=>by rw[show _=[]from h];rfl
 |.d t :: r,x,v :: vs,h=>by simp[qG h.2]
 |.obj k :: r,x,v :: vs,h=>by simp[qG (cls:=r) h.2]
 |.eS :: r,x,v :: vs,h=>by simp[qG (cls:=r) h.2]
def qH{O:aD}{loc:Nat->Loc}{w:World}:∀(cls:List Cl) (xs:List bT) {st:St},Good eT X (aB O st loc w)->
  Tr (aB O st loc w) (aB O (gA cls st xs).2 loc w)/\Good eT X (aB O (gA cls st xs).2 loc w)/\(gA cls st xs).2.env=st.env/\
   ∀vs,bW eT (aB O st loc w) xs vs->bW eT (aB O (gA cls st xs).2 loc w) (gA cls st xs).1 vs:=by
 intro cls;induction cls with
 |nil=>intro xs st g;exact⟨Tr.refl _,g,rfl,fun vs h=>h⟩
 |cons cl r ih=>
  intro xs st g;cases xs with
  |nil=>cases cl <;> exact⟨Tr.refl _,g,rfl,fun vs h=>h⟩
  |cons x xs=>
   cases cl with
   |d t=>
    have g':Good (Cx.mk eT [] [] [] 0 [] [] [] false [] []).eT X (aB O st loc w):=g;obtain⟨t1,g1,e1,k1⟩:=qE g' x;obtain⟨t2,g2,e2,k2⟩:=ih xs g1;refine⟨t1.trans t2,g2,e2.trans e1,fun vs h =>?_⟩;cases h with
    |cons h1 h3=>exact .cons ((k1 _ h1).tr t2) (k2 _ (h3.tr t1))
   |obj k=>
    obtain⟨t2,g2,e2,k2⟩:=ih xs g;refine⟨t2,g2,e2,fun vs h =>?_⟩;cases h with
    |cons h1 h3=>exact .cons (h1.tr t2) (k2 _ h3)
   |eS=>
    obtain⟨t2,g2,e2,k2⟩:=ih xs g;refine⟨t2,g2,e2,fun vs h =>?_⟩;cases h with
    |cons h1 h3=>exact .cons (h1.tr t2) (k2 _ h3)
end
end Go.Vg

