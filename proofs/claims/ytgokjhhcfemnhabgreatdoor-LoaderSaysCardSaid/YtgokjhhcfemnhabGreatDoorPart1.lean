/- A part of the proof that the law LoaderSaysCard holds of the given program: facts that are used there. -/
import Derived.Test.YtgokjhhcfemnhabGreatDoorPart0
import Derived.Maps.RangeRun
import Derived.Laws.BytesString
import Derived.Lib.ConvBytes
import Derived.Deep.LoopGhost
import Derived.ProofKit
import Derived.KernelRfl
set_option linter.unusedSimpArgs false
set_option linter.unusedVariables false
set_option linter.defProp false
noncomputable section
open True renaming intro->aa
open Nat renaming beq->ab,eq_of_beq_eq_true->ah,le_refl->ai,blt->aq,zero_add->ay,lt_of_lt_of_le->az,lt_or_ge->a8,beq_refl->bh,add_mul->b8,testBit_two_pow->cb,testBit_or->cd,beq_eq->cg,testBit_and->ch,mul_le_mul_right->ct,mul_one->cw,add_zero->cy,one_shiftLeft->c6,eq_of_testBit_eq->eg,le_of_ble_eq_true->er
open List renaming length->ad,mem_cons->ag,mem_of_getElem?->aw,mem_append->ba,length_append->bj,size_toArray->bu,range->bz,length_map->b9,all_eq_true->cf,append_nil->cn,filter_cons->cq,foldl_cons->cu,all_cons->db,map_congr_left->dd,mapM_cons->de,length_eq_zero_iff->dr,replicate->dx,length_singleton->ed,mem_range->ef,length_cons->eh,range'_succ->ei,range_eq_range'->ej,mem_filterMap->ep
open Bool renaming and_eq_true->ae,false_eq_true->a7,not_eq_true'->bd,eq_iff_iff->bm,not_true->cr,or_eq_true->c7,and_true->eo
open Go.Sem renaming run_bind->af,run_pure->ak
open Array renaming toList_inj->aj,getD_eq_getD_getElem?->bc,length_toList->b7,toArray_toList->dh,toList_push->dq,size_append->du,toList_map->dy,replicate->ek
open Go.Region renaming binds->ao,wanted->au,ready->av,noSelect->ee
open Go.Result renaming andThen_ok->ar
open Go.Instr renaming findNow->ax,loadAt->cj,alloc->cz,sureAddr->df,lookup->dk,mapUpdate->dm,keyThatStays->dn,makeFunc->dz
open Go.DataW renaming trod->bf,TrodAll->bg
open Go.Oper renaming wp->bk,upon->c8,wp_mono->da
open Go.MapKept renaming run_getObj_map->bn,run_findKey->bo,run_setObj_map->b4,bytes_beq->dj
open Option renaming map_some->bp,getD_some->bq,bind_eq_some_iff->di,map_eq_some_iff->en
open Go.ChangeMaps renaming setBlock->br
open Go.Addr renaming add_lit->bt
open Go.Value renaming cells->bw,okWide->ck
open Go.Calls renaming mono->bx
open Go.Cell renaming okWide->b3,ok->cm
open Int.ofNat renaming inj->b5
open Go.Builtin renaming append_->b6,delete_->cp,zeroCells->dt,max2->dv,min2->dw,max_->dT,min_->ec
open Go.IntKind renaming u8->ca
open Option.some renaming injEq->dc
open Int renaming lt_add_one_of_le->dp
namespace Go.Vg
open Go.RowKit
def dO(e:Ty):List (D (kg e))->List UInt8->Bool
 |[],_=>false
 |y :: r,k=>if y.1=k then true else dO e r k
def ki(e:Ty):List (D (kg e))->List UInt8->D e
 |[],_=>cB e
 |y :: r,k=>if y.1=k then y.2.1 else ki e r k
def gG(e:Ty):List (D (kg e))->List UInt8->D e->Int->List (D (kg e))
 |[],k,v,c=>[(k,v,c,())]
 |y :: r,k,v,c=>if y.1=k then(k,v,y.2.2) :: r else y :: gG e r k v c
def iF(e:Ty):List (D (kg e))->List UInt8->List (D (kg e))
 |[],_=>[]
 |y :: r,k=>if y.1=k then r else y :: iF e r k
def pM(e:Ty)(es:List (D (kg e)))(k:List UInt8)(c:Int):Int:=if dO e es k=true then c else c+1
def PJ(e:Ty):List (D (kg e))->Int->D (kg e)
 |[],_=>cB (kg e)
 |y :: r,s=>if y.2.2.1=s then y else PJ e r s
def EH(e:Ty):List (D (kg e))->Int->Bool
 |[],_=>false
 |y :: r,s=>if y.2.2.1=s then true else EH e r s
def BI(e:Ty)(es:List (D (kg e)))(seen:List Int):List (D (kg e)):=es.filter fun y =>!(seen.contains y.2.2.1)
def BJ(l:List Int):Int:=l.getLastD 0
def tO(cx:Cx)(st:St)(t:TypeId)(c:C)(K:(e:Ty)->Nat->D (kz e)->VC):VC:=
 match c with
 |.gA n=>match look cx.su t with
  |some (_,te)=>match look cx.τ te,look st.aH n with
   |some e,some (.ext 1 t' x)=>match h:Ty.beq t' (kz e),e.one with
    |true,false=>K e n (cX h x)
    |_,_ =>.ff
   |_,_ =>.ff
  |none =>.ff
 |_ =>.ff
def adF:Ty->Option Ty
 |.prod (.slice (.prod _ (.prod e _))) _=>some e
 |_=>none
def EI(st:St)(c:C)(K:(e:Ty)->Nat->List C->List Int->Int->D (kz e)->VC):VC:=
 match c with
 |.gA k=>match look st.aH k with
  |some (.iter [.gA n] seen cl)=>match look st.aH n with
   |some (.ext 1 t' x)=>match adF t' with
    |some e=>match h:Ty.beq t' (kz e)with
     |true=>K e k [.gA n] seen cl (cX h x)
     |false =>.ff
    |none =>.ff
   |_ =>.ff
  |_ =>.ff
 |_ =>.ff
def Ud(st:St)(c:C)(K:SV->St->VC):VC:=
 EI st c fun e k cs seen cl d =>.and (d.2.1=cl) (.both
  (.imp (BI e d.1 seen=[]) (K (.oJ [.one (.lit false)]) st))
  (.all (D (kg e)) fun y =>.imp (y∈BI e d.1 seen) (K (.oJ [.one (.lit true),.one (.d .str y.1),.one (.d e y.2.1)]) (setObj st k (.iter cs (seen++[y.2.2.1]) cl)))))
def EJ(cx:Cx)(st:St)(o:Oper)(K:SV->St->VC):Option VC:=
 match o.op with
 |.makeMap t none=>some (match look cx.su t with
  |some (_,te)=>match look cx.τ te with
   |some e=>match e.gB with
    |true=>K (.s (.one (.gA st.next))) (fresh st (.ext 1 (kz e) ([],0,())))
    |false =>.ff
   |none =>.ff
  |none =>.ff)
 |.lookup t m x true=>some (tO cx st t (eZ st.env m) fun e _ d=>match uz .str (eZ st.env x)with
  |some k=>K (.oJ [.one (.d e (ki e d.1 k)),.one (.d .bool (dO e d.1 k))]) st
  |none =>.ff)
 |.mapUpdate t m x v=>some (tO cx st t (eZ st.env m) fun e n d=>match uz .str (eZ st.env x),sP e (sZ st.env v)with
  |some k,some y =>.and (d.1.length<aI) (K (.s (.one .any)) (setObj st n (.ext 1 (kz e) (gG e d.1 k y d.2.1,pM e d.1 k d.2.1,()))))
  |_,_ =>.ff)
 |.range t m=>some (tO cx st t (eZ st.env m) fun _ n d=>K (.s (.one (.gA st.next))) (fresh st (.iter [.gA n] [] d.2.1)))
 |.next it false=>some (Ud st (eZ st.env it) K)
 |.entry it=>some (EI st (eZ st.env it) fun e _ _ seen cl d =>.and (d.2.1=cl) (.and (seen≠[]) (.and (EH e d.1 (BJ seen)=true)
   (K (.oJ [.one (.d .str (PJ e d.1 (BJ seen)).1),.one (.d e (PJ e d.1 (BJ seen)).2.1)]) st))))
 |.call c=>match c.callee with
  |.builtin .delete=>match c.args.toList,c.argTypes.toList with
   |[m,x],t :: _=>some (tO cx st t (eZ st.env m) fun e n d=>match uz .str (eZ st.env x)with
    |some k=>K (.s (.one .any)) (setObj st n (.ext 1 (kz e) (iF e d.1 k,d.2.1,())))
    |none =>.ff)
   |_,_=>some .ff
  |.builtin .len=>match c.args.toList,c.argTypes.toList with
   |[x],[t]=>match look cx.su t with
    |some _=>some (tO cx st t (eZ st.env x) fun _ _ d=>K (.s (.one (.d (.int .i64) (d.1.length:Int)))) st)
    |none=>none
   |_,_=>none
  |_=>none
 |_=>none
def wk{e:Ty}{e1 e2:TypeId}{x:D e}{A A':aK}{w w':World}{v:Value}(hs:e.gB=true)(h:VR e1 e x A w v):VR e2 e x A' w' v:=by
 unfold VR at h ⊢;by_cases c:e.one=true
 ·rw[if_pos c]at h ⊢;exact lV hs h
 ·rw[if_neg c]at h ⊢;obtain⟨cs,h1,h2⟩:=h;exact⟨cs,h1,lV hs h2⟩
def C7.to{e:Ty}(hs:e.gB=true){y:D (kg e)}{m:MapEntry}{w w':World}(h:C7 e y m w):C7 e y m w':=⟨h.key,wk hs h.val,h.born⟩
def kI.to{e:Ty}(hs:e.gB=true){w w':World}:∀{x:List (D (kg e))} {ms:List MapEntry},kI e x ms w->kI e x ms w'
 |[],[],_=>trivial
 |_ :: _,_ :: _,⟨h1,h2⟩=>⟨h1.to hs,h2.to hs⟩
 |[],_ :: _,h=>h.elim
 |_ :: _,[],h=>h.elim
def kI.len{e:Ty}{w:World}:∀{x:List (D (kg e))} {ms:List MapEntry},kI e x ms w->x.length=ms.length
 |[],[],_=>rfl
 |_ :: _,_ :: _,⟨_,h2⟩=>by simp[h2.len]
 |[],_ :: _,h=>h.elim
 |_ :: _,[],h=>h.elim
def vo.inside{t:Ty}{x:D t}{l:Loc}{w:World}(h:vo t x l w):∀b∈l.bs,b<w.heap.size:=by
 obtain⟨e,_,b,es,gv,hm⟩:=h;intro b' hb';rw[hm.bs]at hb';simp at hb';subst hb';exact(Array.getElem?_eq_some_iff.1 hm.heap).1
def vo.frame{t:Ty}{x:D t}{l:Loc}{w w':World}(h:vo t x l w)(hb:∀b∈l.bs,w'.heap[b]?=w.heap[b]?):vo t x l w':=by
 obtain⟨e,ht,b,es,gv,hm⟩:=h;exact⟨e,ht,b,es,gv,hm.gB,hm.lv,hm.bs,by rw[hb b (by rw[hm.bs];simp)];exact hm.heap,hm.gv,hm.vm.to hm.gB,hm.aI,hm.old⟩
def aa6(a b:List UInt8):((⟨a.toArray⟩:ByteArray) == ⟨b.toArray⟩)=decide (a=b):=by
 rw[bm,dj];simp
def uE{e:Ty}{w:World}{k:List UInt8}(hk:k.length<=aI):∀{x:List (D (kg e))} {ms:List MapEntry} (i:Nat),kI e x ms w->
  (dO e x k=false/\ki e x k=cB e/\ax .string (.string ⟨k.toArray⟩) ms i=some none/\(∀v c,gG e x k v c=x++[(k,v,c,())])/\iF e x k=x)\/
  (dO e x k=true/\∃j m,ms[j]?=some m/\ax .string (.string ⟨k.toArray⟩) ms i=some (some (i+j,m.val))/\VR 0 e (ki e x k) NoA w m.val/\m.key=.string ⟨k.toArray⟩/\
   (∀v u c,VR 0 e v NoA w u->kI e (gG e x k v c) (ms.set j {m with key:=.string ⟨k.toArray⟩,val:=u}) w)/\(∀v c,(gG e x k v c).length=x.length)/\(∀v c,∀y∈gG e x k v c,∃y'∈x,y.2.2.1=y'.2.2.1)/\
   kI e (iF e x k) (ms.eraseIdx j) w/\(∀y∈iF e x k,y∈x)/\(iF e x k).length<=x.length)
 |[],[],i,_ =>.inl ⟨rfl,rfl,rfl,fun _ _=>rfl,rfl⟩
 |y :: r,m :: ms,i,⟨h1,h2⟩=>by
  have hkey:Instr.sameNow .string (.string ⟨k.toArray⟩) m.key=some (decide (y.1=k)):=by
   rw[h1.key.1];show some _=_;rw[aa6];congr 1;rw[bm];simp[eq_comm]
  by_cases c:y.1=k
  ·right
   refine⟨by simp[dO,c],0,m,rfl,by simp[ax,hkey,c],by simp[ki,c];exact h1.val,by rw[h1.key.1,c],fun v u cc hv =>?_,fun v cc =>?_,fun v cc y' hy' =>?_,?_,fun y' hy' =>?_,?_⟩
   ·rw[gG,if_pos c];exact⟨⟨⟨rfl,hk⟩,hv,h1.born⟩,h2⟩
   ·rw[gG,if_pos c];rfl
   ·rw[gG,if_pos c]at hy'
    rcases ag.1 hy' with rfl|hy'
    ·exact⟨y,by simp,rfl⟩
    ·exact⟨y',by simp[hy'],rfl⟩
   ·rw[iF,if_pos c];exact h2
   ·rw[iF,if_pos c]at hy';simp[hy']
   ·rw[iF,if_pos c];simp
  ·rcases uE hk (i+1) h2 with⟨k1,k2,k3,k4,k5⟩|⟨k1,j,m',k2,k3,k4,k5,k6,k7,k8,k9,k10,k11⟩
   ·left
    refine⟨by simp[dO,c,k1],by simp[ki,c,k2],by simp[ax,hkey,c,k3],fun v cc=>by simp[gG,c,k4],by simp[iF,c,k5]⟩
   ·right
    refine⟨by simp[dO,c,k1],j+1,m',by simpa using k2,by simp[ax,hkey,c,k3];omega,by simpa[ki,c]using k4,k5,fun v u cc hv =>?_,fun v cc =>?_,fun v cc y' hy' =>?_,?_,fun y' hy' =>?_,?_⟩
    ·rw[gG,if_neg c];exact⟨h1,k6 v u cc hv⟩
    ·rw[gG,if_neg c];simp[k7]
    ·rw[gG,if_neg c]at hy'
     rcases ag.1 hy' with rfl|hy'
     ·exact⟨y',by simp,rfl⟩
     ·obtain⟨y2,h3,h4⟩:=k8 v cc y' hy'
      exact⟨y2,by simp[h3],h4⟩
    ·rw[iF,if_neg c];exact⟨h1,k9⟩
    ·rw[iF,if_neg c]at hy'
     rcases ag.1 hy' with rfl|hy'
     ·simp
     ·simp[k10 y' hy']
    ·rw[iF,if_neg c];simp;omega
 |[],_ :: _,_,h=>h.elim
 |_ :: _,[],_,h=>h.elim
def kI.snoc{e:Ty}{w:World}{y:D (kg e)}{m:MapEntry}(hy:C7 e y m w):∀{x:List (D (kg e))} {ms:List MapEntry},kI e x ms w->kI e (x++[y]) (ms++[m]) w
 |[],[],_=>⟨hy,aa⟩
 |_ :: _,_ :: _,⟨h1,h2⟩=>⟨h1,h2.snoc hy⟩
 |[],_ :: _,h=>h.elim
 |_ :: _,[],h=>h.elim
section
variable{X:Ext}{P:Program}{cx:Cx}
def Hp{O:aK}{st:St}{loc:Nat->Loc}{w w':World}{n b:Nat}{oc oc':OC}(g:Good cx.eT X (aC O st loc w))(hO:fT O w)
  (hob:look st.aH n=some oc)(jc:(loc n).bs=[b])(hk:bD (loc n) (loc n) oc oc')(h0:oc.lo=0)(h0':oc'.lo=0)(hos:w'.os=w.os)(hout:w'.output=w.output)(hsz:w'.heap.size=w.heap.size)
  (hoth:∀b',b'≠b->w'.heap[b']?=w.heap[b']?) :
  Tr (aC O st loc w) (aC O (setObj st n oc') loc w')/\
   (OR cx.eT X (aC O (setObj st n oc') loc w') (loc n) oc'->Good cx.eT X (aC O (setObj st n oc') loc w')):=by
 refine ry (S:=aC O st loc w) (S':=aC O (setObj st n oc') loc w') (n:=n) (oc:=oc) (oc':=oc') (l':=loc n) g rfl hO hob
  (fun m=>qn st n m oc') (fun m =>?_) rfl (fun _=>p8 rfl) hk hos hout (by simp[aC,hsz]) ?_ ?_ ?_
 ·show loc m=_
  by_cases e:n=m
  ·rw[if_pos e,e]
  ·rw[if_neg e];rfl
 ·intro b' _ hb'
  exact hoth b' (fun e=>hb' (by simp only[aC];rw[jc,e];simp))
 ·intro b' o v _ ho;rw[h0]at ho;omega
 ·intro b' hb';exact .inl ⟨hb',by omega⟩
structure aaG (cx:Cx) (P:Program) (S:bQ) (st:St) (t:TypeId) (v:Value) (e:Ty) (n:Nat) (d:D (kz e)) where
 kt:TypeId
 te:TypeId
 b:Nat
 es:Array MapEntry
 gv:Nat
 jK:P.underlying t=some (.map kt te)
 key:P.underlying kt=some .string
 fit:look cx.τ te=some e
 one:e.one=false
 ob:S.ob n=some (.ext 1 (kz e) d)
 val:v=.map (some b)
 md:Kh e d (S.loc n) S.w b es gv
 zero:∃i cs,P.info? te=some i/\i.zero=some (.agg cs)
def PK{e:Ty}{x:D (kz e)}{l:Loc}{w:World}(h:vo (kz e) x l w):∃b es gv,Kh e x l w b es gv:=by
 obtain⟨e',he,h⟩:=h;have:e=e':=by injection he with h1 _;injection h1 with h1;injection h1 with _ h1;injection h1
 subst this;exact h
def qU(hok:TyOK P cx){O:aK}{st:St}{loc:Nat->Loc}{w:World}(g:Good cx.eT X (aC O st loc w)){t:TypeId}{c:C}{v:Value}{K:(e:Ty)->Nat->D (kz e)->VC}(hc:CR cx.eT (aC O st loc w) c v)
  (h:(tO cx st t c K).holds):∃e n d,(K e n d).holds/\Nonempty (aaG cx P (aC O st loc w) st t v e n d):=by
 unfold tO at h;split at h
 case h_2=>exact h.elim
 rename_i n;split at h
 case h_2=>exact h.elim
 rename_i kt te hm;obtain⟨h1,h2,h3⟩:=hok.su _ _ _ hm;split at h
 case h_2=>exact h.elim
 rename_i e t' x hte hob;split at h
 case h_2=>exact h.elim
 rename_i hb ho;have:=Ty.eq_of_beq hb;subst this;obtain⟨b,es,gv,hd⟩:=PK (X.map.1 (g.obj _ _ hob).2);exact⟨e,n,_,h,⟨⟨kt,te,b,es,gv,h1,h2,hte,ho,by rw[lA];exact hob,(hc.2 _ hob rfl).trans hd.lv,by rw[lA];exact hd,h3⟩⟩⟩
def Gz{S:bQ}{c:C}{k:List UInt8}{v:Value}(h:uz .str c=some k)(hc:CR cx.eT S c v):v=.string ⟨k.toArray⟩/\k.length<=aI:=by
 have:=VR.one rfl (rB h hc);obtain⟨h1,h2⟩:=this;exact⟨by simpa using h1,h2⟩
def zQ{kt:TypeId}(hk:P.underlying kt=some .string)(em:Bool)(s:ByteArray)(w:World):(Instr.checkKey em 10000 kt (.string s)).run P w=.ok () w:=
 Go.MapKept.run_checkKey (d:=.string) hk (by simp[Go.MapKept.IsKey]) em 9999
def uF{t kt te:TypeId}(hu:P.underlying t=some (.map kt te))(hk:P.underlying kt=some .string){w:World}{b gv:Nat}{es:Array MapEntry}(hb:w.heap[b]?=some (.map es gv)){s:ByteArray}{r:Option (Nat×Value)}
  (hr:ax .string (.string s) es.toList 0=some r){z:Value}(hz:(zeroValue te).run P w=.ok z w) :
  (dk t (.map (some b)) (.string s) true).run P w=.ok (.tuple #[match r with|some (_,v)=>v|none=>z,.bool r.isSome]) w:=by
 unfold dk;simp only[af,run_underlying hu,ar,bn hb,zQ hk,ak,bo hk hr];cases r with
 |none=>simp[hz]
 |some p=>rfl
def Rf:∀{e:Ty},e.gB=true->r8 e=true:=by
 intro e;induction e with
 |prod a b iha ihb=>intro h;simp[Ty.gB]at h;simp[r8,iha h.1,ihb h.2]
 |slice e _=>intro h;simp[Ty.gB]at h
 |fW=>intro h;simp[Ty.gB]at h
 |err=>intro h;simp[Ty.gB]at h
 |_=>intro _;rfl
def Yf(hok:TyOK P cx){S:bQ}{st:St}{t:TypeId}{v:Value}{e:Ty}{n:Nat}{d:D (kz e)}(m:aaG cx P S st t v e n d)(w:World):∃z,(zeroValue m.te).run P w=.ok z w/\∀eT A w',VR eT e (cB e) A w' z:=by
 obtain⟨_,ti,_,hf,_⟩:=gF hok m.fit;obtain⟨z,hz,hzr⟩:=hf.zero;obtain⟨i,cs,hi,hc⟩:=m.zero;rw[hf.info]at hi;cases hi;rw[hz]at hc;cases hc;have hno:=Rf m.md.gB;refine⟨.agg cs,by simp[zeroValue,typeInfo,hf.info,hz],fun eT A w' =>?_⟩;unfold VR;rw[if_neg (by rw[m.one];simp)];exact⟨cs,rfl,EC hzr hno⟩
def JP{es:Array MapEntry}{j:Nat}{m:MapEntry}(f:MapEntry->MapEntry)(h:es.toList[j]?=some m):(es.modify j f).toList=es.toList.set j (f m):=by
 have h':es[j]?=some m:=by rw[<-Array.getElem?_toList];exact h
 rw[Array.toList_modify];exact Go.ChangeMaps.modify_eq_set f es.toList j m h
def uG{t kt te:TypeId}(hu:P.underlying t=some (.map kt te))(hk:P.underlying kt=some .string){w:World}{b gv:Nat}{es:Array MapEntry}(hb:w.heap[b]?=some (.map es gv)){s:ByteArray}{v:Value}
  {es':Array MapEntry}{clk':Nat}(h:(ax .string (.string s) es.toList 0=some none/\es'=es.push {key:=.string s,val:=v,born:=gv}/\clk'=gv+1)\/
   ∃j m,ax .string (.string s) es.toList 0=some (some (0+j,m.val))/\es.toList[j]?=some m/\m.key=.string s/\es'=es.modify j (fun e=>{e with key:=.string s,val:=v})/\clk'=gv) :
  (dm t (.map (some b)) (.string s) v).run P w=.ok () {w with heap:=w.heap.setIfInBounds b (.map es' clk')}:=by
 unfold dm;simp only[af,run_underlying hu,ar,bn hb,zQ hk];rcases h with⟨h1,rfl,rfl⟩|⟨j,m,h1,h2,h3,rfl,rfl⟩
 ·rw[bo hk h1]
  simp only[ar];exact b4 _ hb
 ·rw[bo hk h1]
  have hm:es[j]?=some m:=by rw[<-Array.getElem?_toList];exact h2
  have hs:(dn (.string s) (.string s)).run P w=.ok (.string s) w:=by
   unfold dn;rw[if_pos (by simp only[Instr.sameBits];exact(dj s s).2 rfl)];rfl
  simp only[ar,ay,hm,bp,bq,h3,af,hs];exact b4 _ hb
def uH{t kt te ty:TypeId}{ats:Array TypeId}(hat:ats[0]?=some t)(hu:P.underlying t=some (.map kt te))(hk:P.underlying kt=some .string){w:World}{b gv:Nat}{es:Array MapEntry}(hb:w.heap[b]?=some (.map es gv)){s:ByteArray}
  {es':Array MapEntry}(h:(ax .string (.string s) es.toList 0=some none/\es'=es)\/∃j v,ax .string (.string s) es.toList 0=some (some (0+j,v))/\es'=es.eraseIdxIfInBounds j) :
  (cp ats ty #[.map (some b),.string s]).run P w=.ok (.tuple #[]) {w with heap:=w.heap.setIfInBounds b (.map es' gv)}:=by
 unfold cp;simp only[hat,List.getElem?_toArray,List.getElem?_cons_zero,List.getElem?_cons_succ,af,run_underlying hu,ar,bn hb,zQ hk];rcases h with⟨h1,rfl⟩|⟨j,v,h1,rfl⟩
 ·rw[bo hk h1]
  simp only[ar,af,b4 _ hb,ak]
 ·rw[bo hk h1]
  simp only[ar,ay,af,b4 _ hb,ak]
def Yg{w:World}{b:Nat}{o:Obj}(hb:b<w.heap.size):({w with heap:=w.heap.setIfInBounds b o}:World).heap[b]?=some o:=by
 simp[hb]
def NX{w:World}{b b':Nat}{o:Obj}(h:b'≠b):({w with heap:=w.heap.setIfInBounds b o}:World).heap[b']?=w.heap[b']?:=by
 simp only[Array.getElem?_setIfInBounds];rw[if_neg (fun e=>h e.symm)]
def map_set{O:aK}{st:St}{loc:Nat->Loc}{w:World}(g:Good cx.eT X (aC O st loc w))(hO:fT O w){e:Ty}{n b gv clk':Nat}{es es':Array MapEntry}{d:D (kz e)}
  (hob:look st.aH n=some (.ext 1 (kz e) d))(hm:Kh e d (loc n) w b es gv){xs:List (D (kg e))}{c':Int}(hc:c'=(clk':Int))(hents:kI e xs es'.toList w)(hbig:xs.length<=aI)(hold:∀y∈xs,y.2.2.1<c') :
  Tr (aC O st loc w) (aC O (setObj st n (.ext 1 (kz e) (xs,c',()))) loc {w with heap:=w.heap.setIfInBounds b (.map es' clk')})/\
   Good cx.eT X (aC O (setObj st n (.ext 1 (kz e) (xs,c',()))) loc {w with heap:=w.heap.setIfInBounds b (.map es' clk')}):=by
 have hlt:b<w.heap.size:=(Array.getElem?_eq_some_iff.1 hm.heap).1;obtain⟨t1,g1⟩:=Hp (w':={w with heap:=w.heap.setIfInBounds b (.map es' clk')}) (oc':=.ext 1 (kz e) (xs,c',())) g hO hob hm.bs ⟨rfl,rfl⟩ rfl rfl rfl rfl (by simp) (fun b' hb'=>NX hb');exact⟨t1,g1 (X.map.2 ⟨e,rfl,b,es',clk',hm.gB,hm.lv,hm.bs,Yg hlt,hc,hents.to hm.gB,hbig,hold⟩)⟩
def Yh{e:Ty}{xs:List (D (kg e))}{k:List UInt8}{v:D e}{c:Int}(h1:dO e xs k=false)(h2:∀v c,gG e xs k v c=xs++[(k,v,c,())])(hold:∀y∈xs,y.2.2.1<c):∀y∈gG e xs k v c,y.2.2.1<pM e xs k c:=by
 intro y hy;rw[h2]at hy;unfold pM;rw[h1];simp only[a7,if_false];rcases ba.1 hy with hy|hy
 ·have h3:(y.2.2.1:Int)<c:=hold y hy
  exact dp (Int.le_of_lt h3)
 ·simp at hy;subst hy;exact dp (Int.le_refl _)
def PL{e:Ty}{w:World}:∀{x:List (D (kg e))} {ms:List MapEntry} {s:Nat},kI e x ms w->EH e x (s:Int)=true->∃m,ms.find? (fun m=>m.born == s)=some m/\C7 e (PJ e x (s:Int)) m w
 |y :: r,m :: ms,s,⟨h1,h2⟩,hb=>by
  by_cases c:m.born=s
  ·have c':y.2.2.1=(s:Int):=by rw[h1.born,c]
   exact⟨m,by simp[c],by rw[PJ,if_pos c'];exact h1⟩
  ·have c':¬y.2.2.1=(s:Int):=fun h=>c (b5 (h1.born.symm.trans h))
   rw[EH,if_neg c']at hb;obtain⟨m',h3,h4⟩:=PL h2 hb;exact⟨m',by simp[c,h3],by rw[PJ,if_neg c'];exact h4⟩
 |[],[],_,_,hb=>by simp[EH]at hb
def Hq{e:Ty}{w:World}{sn:Array Nat}:∀{x:List (D (kg e))} {ms:List MapEntry},kI e x ms w->kI e (BI e x (sn.toList.map fun(n:Nat)=>(n:Int))) (ms.filter fun m =>!sn.contains m.born) w
 |[],[],_=>trivial
 |y :: r,m :: ms,⟨h1,h2⟩=>by
  have hc:(sn.toList.map fun(n:Nat)=>(n:Int)).contains y.2.2.1=sn.contains m.born:=by
   rw[bm,h1.born];simp only[List.contains_iff_mem,List.mem_map,Array.mem_toList_iff,Array.contains_iff_mem];exact⟨fun⟨a,h3,h4⟩=>by rw[<-b5 h4];exact h3,fun h=>⟨_,h,rfl⟩⟩
  have ih:=Hq (sn:=sn) h2;unfold BI at ih ⊢;rw[cq,cq,hc];cases sn.contains m.born with
  |true=>simp only[cr,a7,if_false];exact ih
  |false=>simp only[Bool.not_false,if_true];exact⟨h1,ih⟩
 |[],_ :: _,h=>h.elim
 |_ :: _,[],h=>h.elim
def Dn{e:Ty}{w:World}:∀{x:List (D (kg e))} {ms:List MapEntry} {m:MapEntry},kI e x ms w->m∈ms->∃y∈x,C7 e y m w
 |y :: _,_ :: _,m,⟨h1,h2⟩,hm=>by
  rcases ag.1 hm with rfl|hm
  ·exact⟨y,by simp,h1⟩
  ·obtain⟨y',h3,h4⟩:=Dn h2 hm
   exact⟨y',by simp[h3],h4⟩
 |[],[],_,_,hm=>by simp at hm
structure acD (S:bQ) (v:Value) (e:Ty) (k:Nat) (cs:List C) (seen:List Int) (cl:Int) (d:D (kz e)) where
 n:Nat
 b:Nat
 r:Nat
 es:Array MapEntry
 gv:Nat
 c:Nat
 sn:Array Nat
 ob:S.ob n=some (.ext 1 (kz e) d)
 it:S.ob k=some (.iter cs seen cl)
 val:v=.pointer (some ⟨r,0,none⟩)
 md:Kh e d (S.loc n) S.w b es gv
 hr:S.w.heap[r]?=some (.mapIter (some b) c sn c)
 hU:cl=(c:Int)
 Hr:seen=sn.toList.map fun(n:Nat)=>(n:Int)
 jc:(S.loc k).bs=[r]
 hlv:(S.loc k).v=.pointer (some ⟨r,0,none⟩)
def EK{O:aK}{st:St}{loc:Nat->Loc}{w:World}(g:Good cx.eT X (aC O st loc w)){c:C}{v:Value}{K:(e:Ty)->Nat->List C->List Int->Int->D (kz e)->VC}(hc:CR cx.eT (aC O st loc w) c v)
  (h:(EI st c K).holds):∃e k cs seen cl d,(K e k cs seen cl d).holds/\(∃m,cs=[.gA m])/\Nonempty (acD (aC O st loc w) v e k cs seen cl d):=by
 unfold EI at h;split at h
 case h_2=>exact h.elim
 rename_i k;split at h
 case h_2=>exact h.elim
 rename_i n seen cl hk;split at h
 case h_2=>exact h.elim
 rename_i t' x hob;split at h
 case h_2=>exact h.elim
 rename_i e hun;split at h
 case h_2=>exact h.elim
 rename_i hb;have:=Ty.eq_of_beq hb;subst this;obtain⟨b,es,gv,hd⟩:=PK (X.map.1 (g.obj _ _ hob).2);obtain⟨r,m,c,sn,h1,h2,h3,h4,h5,h6⟩:=(g.obj _ _ hk).2;have hmb:m=b:=by
  cases h4 with
  |cons h7 _ _=>
   have:=(h7.2 _ hob rfl).trans hd.lv;cases this;rfl
 subst hmb;exact⟨e,k,_,seen,cl,_,h,⟨n,rfl⟩,⟨⟨n,m,r,es,gv,c,sn,by rw[lA];exact hob,hk,(hc.2 _ hk rfl).trans h1,by rw[lA];exact hd,h3,h5,h6,h2,h1⟩⟩⟩
def KH{S:bQ}{eT:TypeId}{y:List UInt8}{v:Value}(h:v=.string ⟨y.toArray⟩/\y.length<=aI):jG eT S (.one (.d .str y)) v:=by
 show VR eT .str y S.A S.w v;rw[h.1];exact VR.cZ rfl ⟨rfl,h.2⟩
def aa7{S:bQ}{eT:TypeId}{n:Nat}(h:n<=aI):eL eT S (.s (.one (.d (.int .i64) (n:Int)))) (.int .i64 (n:Int)):=by
 show VR eT (.int .i64) (n:Int) S.A S.w _;refine VR.cZ rfl ⟨rfl,?_⟩;rw[Kg]at h;show(-9223372036854775808:Int)<=(n:Int)/\(n:Int)<=9223372036854775807;omega
def KI{S:bQ}{eT:TypeId}{x b:Bool}(h:x=b):jG eT S (.one (.d .bool x)) (.bool b):=by
 subst h;show VR eT .bool x S.A S.w (.bool x);exact VR.cZ rfl rfl
def NY(hok:TyOK P cx){O:aK}{st:St}{loc:Nat->Loc}{w:World}{a:Act}(g:Good cx.eT X (aC O st loc w))(hO:fT O w)(he:iu cx.eT (aC O st loc w) st.env a)
  {o:Oper}{K:SV->St->VC}{vc:VC}(hm:EJ cx st o K=some vc)(h:vc.holds) :
  ∃sv v st' loc' w',(K sv st').holds/\st'.env=st.env/\Good cx.eT X (aC O st' loc' w')/\Tr (aC O st loc w) (aC O st' loc' w')/\eL cx.eT (aC O st' loc' w') sv v/\
   ((execOp a.eval o).run P w=.ok (.value v) w'\/((execOp a.eval o).run P w=.ok .skip w'/\sv=.s (.one .any))):=by
 unfold EJ at hm;split at hm
 ·rename_i t hop
  cases hm;split at h
  case h_2=>exact h.elim
  rename_i k te hmp;split at h
  case h_2=>exact h.elim
  rename_i e hte;split at h
  case h_2=>exact h.elim
  rename_i hs;have hb:Below w.heap.size w (w.alloc (.map #[] 0)):=(Below.refl _ w).alloc (ai _) _;obtain⟨tr1,g1⟩:=iR (oc:=.ext 1 (kz e) ([],0,())) (l:=⟨.map (some w.heap.size),[w.heap.size]⟩) g hO hb (by simp);have g1:=g1 (X.map.2 ⟨e,rfl,w.heap.size,#[],0,hs,rfl,rfl,heap_alloc_new w _,rfl,aa,by simp,fun y hy=>by simp at hy⟩);refine⟨_,.map (some w.heap.size),_,_,_,h,rfl,g1,tr1,⟨by show st.next<st.next+1;omega,fun oc hoc _=>by simp[aC,cM]⟩,.inl ?_⟩;simp[execOp,hop,Instr.makeMap]
 ·rename_i t m x hop
  cases hm;obtain⟨e,n,d,h1,⟨M⟩⟩:=qU (P:=P) hok g (cA he m) h;split at h1
  case h_2=>exact h1.elim
  rename_i k hk;obtain⟨hv,hl⟩:=Gz hk (cA he x);obtain⟨z,hz,hzr⟩:=Yf hok M w;rcases uE hl 0 M.md.vm with⟨k1,k2,k3,k4,k5⟩|⟨k1,j,m',k2,k3,k4,k5,_⟩
  ·refine⟨_,.tuple #[z,.bool false],st,loc,w,h1,rfl,g,Tr.refl _,⟨[z,.bool false],rfl,.cons (by rw[k2];exact hzr _ _ _) (.cons (KI k1) .nil)⟩,.inl ?_⟩
   have hrun:=uF (w:=w) M.jK M.key M.md.heap k3 hz;simp only[execOp,hop,af,M.val,hv];rw[hrun];rfl
  ·refine⟨_,.tuple #[m'.val,.bool true],st,loc,w,h1,rfl,g,Tr.refl _,⟨[m'.val,.bool true],rfl,.cons (wk M.md.gB k4) (.cons (KI k1) .nil)⟩,.inl ?_⟩
   have hrun:=uF (w:=w) M.jK M.key M.md.heap k3 hz;simp only[execOp,hop,af,M.val,hv];rw[hrun];rfl
 ·rename_i t m x v hop
  cases hm;obtain⟨e,n,d,h1,⟨M⟩⟩:=qU (P:=P) hok g (cA he m) h;split at h1
  case h_2=>exact h1.elim
  rename_i k y hk hy;obtain⟨hbig,h1⟩:=h1;obtain⟨hv,hl⟩:=Gz hk (cA he x);have hvy:VR 0 e y NoA w (a.eval v):=wk M.md.gB (nA hy (mV he v));rcases uE hl 0 M.md.vm with⟨k1,k2,k3,k4,k5⟩|⟨k1,j,m',k2,k3,k4,k5,k6,k7,k8,_⟩
  ·obtain⟨t1,g1⟩:=map_set (es':=M.es.push {key:=.string ⟨k.toArray⟩,val:=a.eval v,born:=M.gv}) (clk':=M.gv+1) g hO M.ob M.md (xs:=gG e d.1 k y d.2.1) (c':=pM e d.1 k d.2.1)
    (by unfold pM;rw[k1,M.md.gv];rfl) (by rw[k4,dq];exact kI.snoc ⟨⟨rfl,hl⟩,hvy,M.md.gv⟩ M.md.vm) (by rw[k4];simp;omega) (Yh k1 k4 M.md.old)
   refine⟨_,.nilFunc,_,loc,_,h1,rfl,g1,t1,aa,.inr ⟨?_,rfl⟩⟩;have hrun:=uG (w:=w) M.jK M.key M.md.heap (v:=a.eval v) (.inl ⟨k3,rfl,rfl⟩);simp only[execOp,hop,af,M.val,hv];rw[hrun];rfl
  ·obtain⟨t1,g1⟩:=map_set (es':=M.es.modify j (fun e=>{e with key:=.string ⟨k.toArray⟩,val:=a.eval v})) (clk':=M.gv) g hO M.ob M.md (xs:=gG e d.1 k y d.2.1) (c':=pM e d.1 k d.2.1)
    (by unfold pM;rw[k1,M.md.gv];rfl) (by rw[JP _ k2];exact k6 y (a.eval v) _ hvy) (by rw[k7];exact M.md.aI) (fun y' hy'=>by
     obtain⟨y2,h3,h4⟩:=k8 _ _ y' hy';rw[h4];unfold pM;rw[k1];exact M.md.old y2 h3)
   refine⟨_,.nilFunc,_,loc,_,h1,rfl,g1,t1,aa,.inr ⟨?_,rfl⟩⟩;have hrun:=uG (w:=w) M.jK M.key M.md.heap (v:=a.eval v) (.inr ⟨j,m',k3,k2,k5,rfl,rfl⟩);simp only[execOp,hop,af,M.val,hv];rw[hrun];rfl
 ·rename_i t m hop
  cases hm;have hc0:=cA he m;obtain⟨e,n,d,h1,⟨M⟩⟩:=qU (P:=P) hok g hc0 h;have hb:Below w.heap.size w (w.alloc (.mapIter (some M.b) M.gv #[] M.gv)):=(Below.refl _ w).alloc (ai _) _;obtain⟨tr1,g1⟩:=iR (oc:=.iter [.gA n] [] d.2.1) (l:=⟨.pointer (some ⟨w.heap.size,0,none⟩),[w.heap.size]⟩) g hO hb (by simp);have hx:CR cx.eT (aC O st loc w) (.gA n) (.map (some M.b)):=⟨(g.obj _ _ M.ob).1,fun oc hoc _=>M.md.lv.symm⟩;have g1:=g1 ⟨w.heap.size,M.b,M.gv,#[],rfl,rfl,heap_alloc_new w _,.cons (hx.tr tr1) rfl .nil,M.md.gv,rfl⟩;refine⟨_,.pointer (some ⟨w.heap.size,0,none⟩),_,_,_,h1,rfl,g1,tr1,⟨by show st.next<st.next+1;omega,fun oc hoc _=>by simp[aC,cM]⟩,.inl ?_⟩;have hu:=M.jK;have hh:w.heap[M.b]?=some (.map M.es M.gv):=M.md.heap;have hgo:(getObj M.b).run P w=.ok (.map M.es M.gv) w:=bn hh;simp only[execOp,hop,M.val,Instr.range,af,run_underlying hu,ar,hgo,ak];rfl
 ·rename_i it hop
  cases hm;unfold Ud at h;obtain⟨e,k,cs,seen,cl,d,h1,⟨n0,rfl⟩,⟨M⟩⟩:=EK g (cA he it) h;obtain⟨hU,h1,h2⟩:=h1;have hcc:M.gv=M.c:=b5 (M.md.gv.symm.trans (hU.trans M.hU));have hold:∀x∈M.es.toList,x.born<M.c:=fun x hx=>by
   obtain⟨y,hy,hyr⟩:=Dn M.md.vm hx;have h3:=M.md.old y hy;rw[hyr.born,M.md.gv,hcc]at h3;exact Int.ofNat_lt.1 h3
  have hleft:kI e (BI e d.1 seen) (leftOf M.es M.sn).toList w:=by
   have:=Hq (sn:=M.sn) M.md.vm;rw[<-M.Hr]at this;unfold leftOf;rw[Array.toList_filter];exact this
  have hrl:M.r<w.heap.size:=(Array.getElem?_eq_some_iff.1 M.hr).1;rcases Go.run_next_at (P:=P) w o.type M.r M.b M.c M.c M.sn M.es M.gv M.hr M.md.heap hold (ai _)with⟨h3,h4⟩|⟨m,hm,w1,hw1,h4⟩
  ·have hnil:BI e d.1 seen=[]:=dr.1 (by rw[hleft.len];simpa using h3)
   refine⟨_,.tuple #[.bool false],st,loc,w,h1 hnil,rfl,g,Tr.refl _,⟨[.bool false],rfl,.cons rfl .nil⟩,.inl ?_⟩;simp only[execOp,hop,M.val,af,h4,ar,ak]
  ·obtain⟨y,hy,hyr⟩:=Dn hleft hm
   have hK:=h2 y hy;have e1:w1.heap=w.heap/\w1.os=w.os/\w1.output=w.output:=by rcases hw1 with rfl|rfl <;> exact⟨rfl,rfl,rfl⟩
   obtain⟨t1,g1⟩:=Hp (w':=br w1 M.r (.mapIter (some M.b) M.c (M.sn.push m.born) M.gv)) (oc':=.iter [.gA n0] (seen++[y.2.2.1]) cl) g hO M.it M.jc trivial rfl rfl e1.2.1 e1.2.2
    (by simp[br,e1.1]) (fun b' hb'=>by simp only[br,Array.getElem?_setIfInBounds,e1.1];rw[if_neg (fun e=>hb' e.symm)])
   have hor:=(g.obj _ _ M.it).2;have hg1:=g1 (by
    obtain⟨r',m0,c0,sn0,q1,q2,q3,q4,q5,q6⟩:=hor;have hmb:m0=M.b:=by
     have hr':r'=M.r:=by have:=M.hlv.symm.trans q1;cases this;rfl
     subst hr';have:=M.hr.symm.trans q3;cases this;rfl
    refine⟨M.r,m0,M.c,M.sn.push m.born,M.hlv,M.jc,?_,q4.tr t1,M.hU,?_⟩
    ·show(br w1 M.r _).heap[M.r]?=_
     rw[hmb,hcc];simp only[br,Array.getElem?_setIfInBounds,e1.1];simp[hrl]
    ·rw[dq,List.map_append,<-M.Hr,hyr.born];rfl)
   refine⟨_,.tuple #[.bool true,m.key,m.val],_,loc,_,hK,rfl,hg1,t1,⟨[.bool true,m.key,m.val],rfl,.cons rfl (.cons (KH hyr.key) (.cons (wk M.md.gB hyr.val) .nil))⟩,.inl ?_⟩;simp only[execOp,hop,M.val,af,h4,ar,ak]
 ·rename_i it hop
  cases hm;obtain⟨e,k,cs,seen,cl,d,h1,⟨n0,rfl⟩,⟨M⟩⟩:=EK g (cA he it) h;obtain⟨hU,hne,hbo,h1⟩:=h1;have hcc:M.gv=M.c:=b5 (M.md.gv.symm.trans (hU.trans M.hU));have Hr:M.sn.toList≠[]:=fun e0=>hne (by rw[M.Hr,e0];rfl)
  have hlast:∃s,M.sn.back?=some s/\BJ seen=(s:Int):=by
   refine⟨M.sn.toList.getLast Hr,?_,?_⟩
   ·rw[<-Array.getLast?_toList];exact List.getLast?_eq_some_getLast Hr
   ·refine(congrArg BJ M.Hr).trans ?_
    unfold BJ;rw[List.getLastD_eq_getLast?,List.getLast?_map,List.getLast?_eq_some_getLast Hr];rfl
  obtain⟨s,hs1,hs2⟩:=hlast;rw[hs2]at hbo h1;obtain⟨m,hm1,hm2⟩:=PL M.md.vm hbo;refine⟨_,.tuple #[m.key,m.val],st,loc,w,h1,rfl,g,Tr.refl _,⟨[m.key,m.val],rfl,.cons (KH hm2.key) (.cons (wk M.md.gB hm2.val) .nil)⟩,.inl ?_⟩;have hf:M.es.find? (fun m=>m.born == s)=some m:=by rw[<-Array.find?_toList];exact hm1
  have hr:=M.hr;have hb:=M.md.heap;simp only[aC]at hr hb;simp only[execOp,hop,M.val,Instr.entry,getObj,af,Sem.run,hr,hb,Result.andThen,hs1,hcc,bne_self_eq_false,a7,if_false,hf];rfl
 ·rename_i c hop
  split at hm
  ·rename_i hcal
   split at hm
   ·rename_i m x t ts harg hty
    cases hm;obtain⟨e,n,d,h1,⟨M⟩⟩:=qU (P:=P) hok g (cA he m) h;split at h1
    case h_2=>exact h1.elim
    rename_i k hk;obtain⟨hv,hl⟩:=Gz hk (cA he x);have ha:c.args= #[m,x]:=aj.1 harg;have hat:c.argTypes[0]?=some t:=by rw[<-Array.getElem?_toList,hty];rfl
    have fin:∀es':Array MapEntry,kI e (iF e d.1 k) es'.toList w->(iF e d.1 k).length<=aI->(∀y∈iF e d.1 k,y∈d.1)->
      (∀ty,(cp c.argTypes ty #[.map (some M.b),.string ⟨k.toArray⟩]).run P w=.ok (.tuple #[]) {w with heap:=w.heap.setIfInBounds M.b (.map es' M.gv)})->
      ∃sv v st' loc' w',(K sv st').holds/\st'.env=st.env/\Good cx.eT X (aC O st' loc' w')/\Tr (aC O st loc w) (aC O st' loc' w')/\eL cx.eT (aC O st' loc' w') sv v/\
       ((execOp a.eval o).run P w=.ok (.value v) w'\/((execOp a.eval o).run P w=.ok .skip w'/\sv=.s (.one .any))):=by
     intro es' h3 h4 h5 h6;obtain⟨t1,g1⟩:=map_set (es':=es') (clk':=M.gv) g hO M.ob M.md (xs:=iF e d.1 k) (c':=d.2.1) M.md.gv h3 h4 (fun y hy=>M.md.old y (h5 y hy));refine⟨_,.tuple #[],_,loc,_,h1,rfl,g1,t1,aa,.inl ?_⟩;simp[execOp,hop,resolve,hcal,ha,invoke,builtin,M.val,hv,h6]
    rcases uE hl 0 M.md.vm with⟨k1,k2,k3,k4,k5⟩|⟨k1,j,m',k2,k3,k4,k5,k6,k7,k8,k9,k10,k11⟩
    ·exact fin M.es (by rw[k5];exact M.md.vm) (by rw[k5];exact M.md.aI) (fun y hy=>by rw[k5]at hy;exact hy) fun ty=>uH hat M.jK M.key M.md.heap (.inl ⟨k3,rfl⟩)
    ·have hj:j<M.es.size:=by
      rcases a8 j M.es.toList.length with h'|h'
      ·simpa using h'
      ·rw[List.getElem?_eq_none h']at k2;cases k2
     refine fin (M.es.eraseIdxIfInBounds j) ?_ (Nat.le_trans k11 M.md.aI) k10 fun ty=>uH hat M.jK M.key M.md.heap (.inr ⟨j,_,k3,rfl⟩)
     unfold Array.eraseIdxIfInBounds;rw[dif_pos hj,Array.toList_eraseIdx];exact k9
   ·cases hm;exact h.elim
  ·rename_i hcal
   split at hm
   ·rename_i x t harg hty
    split at hm
    ·cases hm
     obtain⟨e,n,d,h1,⟨M⟩⟩:=qU (P:=P) hok g (cA he x) h;have ha:c.args= #[x]:=aj.1 harg;have ht:c.argTypes= #[t]:=aj.1 hty;have hsz:d.1.length=M.es.size:=by rw[M.md.vm.len];simp
     refine⟨_,.int .i64 (d.1.length:Int),st,loc,w,h1,rfl,g,Tr.refl _,aa7 M.md.aI,.inl ?_⟩;have hgo:(getObj M.b).run P w=.ok (.map M.es M.gv) w:=bn M.md.heap;simp[execOp,hop,resolve,hcal,ha,ht,invoke,builtin,Builtin.len_,run_underlying M.jK,hgo,goInt,M.val,hsz]
    ·cases hm
   ·cases hm
  ·cases hm
 ·cases hm
end
def Dp(cx:Cx)(st:St)(x:Operand)(ty:TypeId)(K:SV->St->VC):VC:=
 match ev st.env x,look cx.τ ty with
 |.s (.one .lz),some (.slice e)=>match e.gB with
  |true=>K (.s (.one (.bC st.next))) (fresh st (.bC e []))
  |false=>zN cx st x ty K
 |_,_ =>.ff
def Dq(cx:Cx)(st:St)(t:TypeId)(n:Nat)(x:C)(K:SV->St->VC):VC:=
 match look cx.τ t with
 |some (.slice e)=>match e.gB,zI st e x,look st.aH n with
  |true,some ys,some (.bC e' zs)=>match h:Ty.beq (.slice e') (.slice e)with
   |true =>.and (0<ad ys/\ad zs+ad ys<=1000000000) (K (.s (.one (.bC st.next))) (fresh (bH (bH st n) n) (.bC e (cX h (a:=.slice e') zs++ys))))
   |false =>.ff
  |_,_,_ =>.ff
 |_ =>.ff
section
variable{X:Ext}{P:Program}{cx:Cx}
def zR{O:aK}{st:St}{loc:Nat->Loc}{w:World}{a:Act}(g:Good cx.eT X (aC O st loc w))(hO:fT O w)(he:iu cx.eT (aC O st loc w) st.env a)
  {x:Operand}{ty:TypeId}{K:SV->St->VC}(h:(Dp cx st x ty K).holds) :
  ∃sv st' loc',(K sv st').holds/\st'.env=st.env/\Good cx.eT X (aC O st' loc' w)/\Tr (aC O st loc w) (aC O st' loc' w)/\eL cx.eT (aC O st' loc' w) sv (a.eval x):=by
 have hx:=oL he x;unfold Dp at h;split at h
 case h_2=>exact h.elim
 rename_i e hl _;rw[hl]at hx;split at h
 ·obtain⟨tr1,g1⟩:=iR (oc:=.bC e []) (l:=⟨.slice none 0 0,[]⟩) g hO (Below.refl _ w) (by simp)
  have g1:=g1 (.inl ⟨rfl,⟨none,rfl⟩,rfl⟩);refine⟨_,_,_,h,rfl,g1,tr1,?_⟩;rw[show a.eval x=_ from hx];exact⟨by simp[aC,fresh],fun t ys hy=>by simp[aC,cM]⟩
 ·exact JN g hO he h
def KJ(hok:TyOK P cx){O:aK}{st:St}{loc:Nat->Loc}{w:World}(g:Good cx.eT X (aC O st loc w))(hO:fT O w)
  {t ty:TypeId}{n:Nat}{x:C}{K:SV->St->VC}{vs vx:Value}(hs:CR cx.eT (aC O st loc w) (.bC n) vs)(hx:CR cx.eT (aC O st loc w) x vx)(h:(Dq cx st t n x K).holds) :
  ∃sv v st' loc' w',(K sv st').holds/\st'.env=st.env/\Good cx.eT X (aC O st' loc' w')/\Tr (aC O st loc w) (aC O st' loc' w')/\eL cx.eT (aC O st' loc' w') sv v/\
   (b6 #[t,t] ty #[vs,vx]).run P w=.ok v w':=by
 unfold Dq at h;split at h
 case h_2=>exact h.elim
 rename_i e ht;obtain⟨te,ti,td,hu,hf⟩:=jb hok ht;obtain⟨z,hz,hzr⟩:=hf.zero;have hzs:z.cells.size=e.size:=by
  rw[<-b7];exact(mI (S:=aC O st loc w) (cx:=cx) hzr).length.symm.trans (kd e)
 split at h
 case h_2=>exact h.elim
 rename_i ys e' zs hsc hys hob;split at h
 case h_2=>exact h.elim
 rename_i hb1;have he1:e'=e:=by have:=Ty.eq_of_beq hb1;cases this;rfl
 subst he1;rw[im]at h;obtain⟨⟨hpos,hle⟩,h⟩:=h;have hvl:=hs.2 _ _ hob;have hbytes:(ad zs+ad ys)*ti.bytes<=140737488355328:=by have:=Nat.mul_le_mul hle hf.bytes;omega
 rcases w6 g hys hx with⟨rfl,_⟩|⟨b,o,cap,cs,hvx,hU,hcc,hrl,hone⟩
 ·simp at hpos
 have hnews:∀j u,cs[j]?=some u->w.cell? ((⟨b,o,none⟩:Addr).add j)=some u:=fun j u hj=>by rw[bt];exact hcc j u hj
 subst hvx;have fin:∀(w':World) (b' cap':Nat) (vs':Array Value) (T':TypeId) (olds:List Value),olds.length=ad zs*e'.size->il cx.eT e' zs (aC O st loc w).A w olds->
   w'.os=w.os->w'.output=w.output->w.heap.size<=w'.heap.size->(b'∈(loc n).bs\/w.heap.size<=b')->(∀b,b<w.heap.size->b≠b'->w'.heap[b]?=w.heap[b]?)->
   w'.heap[b']?=some (.cells vs' T' (0,0))->vs'.size=cap'*e'.size->ad zs+ad ys<=cap'->(∀(j:Nat) u,(olds++cs)[j]?=some u->vs'[j]?=some u)->
   (b6 #[t,t] ty #[vs,.slice (some ⟨b,o,none⟩) ys.length cap]).run P w=.ok (.slice (some ⟨b',0,none⟩) (ad zs+ad ys) cap') w'->
   ∃sv v st' loc' w',(K sv st').holds/\st'.env=st.env/\Good cx.eT X (aC O st' loc' w')/\Tr (aC O st loc w) (aC O st' loc' w')/\eL cx.eT (aC O st' loc' w') sv v/\
    (b6 #[t,t] ty #[vs,.slice (some ⟨b,o,none⟩) ys.length cap]).run P w=.ok v w':=by
  intro w' b' cap' vs' T' olds ho1 ho3 hos hout hsize hb' hoth hheap' hsz' hcap' hv hrun;obtain⟨tr,gd⟩:=s7 (w':=w') (oc:=.bC e' (zs++ys)) (l:=⟨.slice (some ⟨b',0,none⟩) (ad zs+ad ys) cap',[b']⟩) g hO n n hos hout hsize
   (fun k oc' hk hl=>by
    have:k=n:=by rcases hk with h|h <;> exact h
    subst this;rw[hob]at hl;cases hl;rfl)
   (fun b hlt hb=>by
    refine hoth b hlt fun e' =>?_
    subst e';rcases hb' with k1|k1
    ·exact hb n _ (.inl rfl) hob k1
    ·omega)
   (fun b hbm=>by
    simp at hbm;subst hbm;rcases hb' with k1|k1
    ·exact .inl ⟨n,_,.inl rfl,hob,k1⟩
    ·exact .inr k1)
  have gd:=gd (.inr ⟨b',vs',T',cap',by rw[bj],rfl,hheap',hsz',by rw[bj];exact hcap',by rw[bj];unfold aI;omega,fun i y hy=>by
   obtain⟨us,r1,r2⟩:=(ho3.append ho1 hrl) i y hy;exact⟨us,lV hsc r1,fun j u hj=>hv _ u (r2 j u hj)⟩⟩)
  exact⟨_,_,_,_,_,h,rfl,gd,tr,⟨by simp[aC,fresh,bH],fun t xs hy=>by simp[aC,cM]⟩,hrun⟩
 rcases(g.obj n _ hob).2 with⟨rfl,⟨a0,ha0⟩,hbs0⟩|⟨b1,vs1,T1,cap1,hl1,hbs1,hheap1,hsz1,hfit1,hbig1,he1⟩
 ·have hvs0:vs=.slice a0 0 0:=hvl.trans ha0
  subst hvs0;have hrun:=pn (P:=P) (w:=w) (t:=t) (ty:=ty) hu hf.info hz a0 (a:=⟨b,o,none⟩) (n:=ad ys) (c:=cap) (news:=cs) (by rw[hU,hf.size]) hnews hpos (by simp at hle;omega)
   (by have:=hbytes;simp only[List.length_nil,ay]at this;omega)
  have hc':ad ys<=grownCap w (ad ys) 0 te:=grownCap_ge w _ _ _;have hB:Below w.heap.size w (w.drew.alloc (.cells (cs.toArray++dt z.cells (grownCap w (ad ys) 0 te-ad ys)) te)):=(Below.refl _ w).drew.alloc (ai _) _;refine fin _ w.heap.size (grownCap w (ad ys) 0 te) _ te [] (by simp) (fun i y hy=>by simp at hy) hB.os hB.output hB.size (.inr (ai _)) (fun b hlt _=>hB.block b hlt) (heap_alloc_new w.drew _) ?_ (by simpa using hc')
   (fun j u hj =>?_) (by rw[hrun];simp)
  ·simp only[du,bu,size_zeroCells,hzs,hU,<-b8]
   congr 1;omega
  ·rw[List.nil_append]at hj
   rw[Array.getElem?_append,if_pos (by simpa using bN hj)];simpa using hj
 ·have hvs0:vs=.slice (some ⟨b1,0,none⟩) (ad zs) cap1:=hvl.trans hl1
  subst hvs0;have hxs:ad zs*e'.size<=vs1.size:=by rw[hsz1];exact ct _ hfit1
  obtain⟨olds,ho,ho1,ho3,_⟩:=r9 he1 hxs;have ho2:∀j u,olds[j]?=some u->vs1[j]?=some u:=fun j u hj=>by
   rw[ho,List.getElem?_take]at hj;split at hj
   ·rwa [Array.getElem?_toList]at hj
   ·cases hj
  by_cases hroom:ad zs+ad ys<=cap1
  ·have hmul:(ad zs+ad ys)*e'.size<=cap1*e'.size:=ct _ hroom
   rw[b8]at hmul;have hfit:ad zs*ti.size+cs.length<=vs1.size:=by rw[hf.size,hsz1,hU];exact hmul
   have hrun:=sQ (P:=P) (ty:=ty) hu hf.info hheap1 (a:=⟨b,o,none⟩) (c:=cap) (by rw[hU,hf.size]) hnews hone hroom hfit;rw[hf.size]at hrun hfit;generalize hcur':(vs1.toList.take (ad zs*e'.size)++cs++vs1.toList.drop (ad zs*e'.size+cs.length)).toArray=cur' at hrun;have hget:∀k:Nat,cur'[k]?=if k<ad zs*e'.size then vs1[k]? else if k<ad zs*e'.size+cs.length then cs[k-ad zs*e'.size]? else vs1[k]?:=by
    intro k;rw[<-hcur',List.getElem?_toArray,jL _ _ _ _ (by simpa using hfit)];simp
   have hsz':cur'.size=vs1.size:=by
    rw[<-hcur'];simp only[bu,bj,List.length_take,List.length_drop,b7];omega
   refine fin (w.setRow b1 cur') b1 cap1 cur' T1 olds ho1 ho3 rfl rfl (by simp[World.setRow]) (.inl (by rw[show(loc n).bs=_ from hbs1];simp))
    (fun b _ hne=>setRow_other w b1 b cur' (fun e'=>hne e')) (setRow_heap w b1 vs1 cur' T1 (0,0) hheap1) (by rw[hsz',hsz1]) hroom (fun j u hj =>?_) hrun
   rw[List.getElem?_append,ho1]at hj;rw[hget];by_cases h3:j<ad zs*e'.size
   ·rw[if_pos h3]at hj ⊢;exact ho2 j u hj
   ·rw[if_neg h3]at hj
    have:=bN hj;rw[if_neg h3,if_pos (by omega)];exact hj
  ·have hrun:=run_append_grow (P:=P) w t ty te ti z hu hf.info hz ⟨b1,0,none⟩ (ad zs) cap1 olds (by rw[ho1,hf.size])
    (fun j u hj=>by rw[bt,ay,cell_of_row w b1 _ vs1 T1 (0,0) hheap1];exact ho2 j u hj)
    ⟨b,o,none⟩ (ad ys) cap cs (by rw[hU,hf.size]) hnews (by omega) (by omega) (growslice_fits (by omega) hbytes)
   have hc':ad zs+ad ys<=grownCap w (ad zs+ad ys) cap1 te:=grownCap_ge w _ _ _;have hB:Below w.heap.size w (w.drew.alloc (.cells (olds.toArray++cs.toArray++dt z.cells (grownCap w (ad zs+ad ys) cap1 te-(ad zs+ad ys))) te)):=(Below.refl _ w).drew.alloc (ai _) _;refine fin _ w.heap.size (grownCap w (ad zs+ad ys) cap1 te) _ te olds ho1 ho3 hB.os hB.output hB.size (.inr (ai _)) (fun b hlt _=>hB.block b hlt) (heap_alloc_new w.drew _) ?_ hc' (fun j u hj =>?_) hrun
   ·simp only[du,bu,size_zeroCells,hzs,hU,ho1,<-b8]
    congr 1;omega
   ·have hj':(olds.toArray++cs.toArray)[j]?=some u:=by
     rw[<-Array.getElem?_toList];simpa using hj
    rw[Array.getElem?_append,if_pos (by have:=(Array.getElem?_eq_some_iff.1 hj').1;exact this)];exact hj'
end
def Yi(a b:Int):Int:=if b<a then b else a
def Rg(a b:Int):Int:=if b > a then b else a
def Rh(mx:Bool)(x y:C)(K:C->VC):VC:=
 match x,y with
 |.d (.int k) a,.d (.int k') b=>match decide (k=k'),mx with
  |true,true=>K (.d (.int k) (Rg a b))
  |true,false=>K (.d (.int k) (Yi a b))
  |_,_ =>.ff
 |_,_ =>.ff
def tP(st:St)(env:List (Nat×SV)):List Operand->Option (List Nat)
 |[]=>some []
 |x :: xs=>match eZ env x,tP st env xs with
  |.ref n 0,some ns=>match look st.aH n with
   |some (.cells _ _)=>some (n :: ns)
   |_=>none
  |_,_=>none
def Ue(cx:Cx)(st:St)(still:Bool)(f:C)(args:List dC)(K:SV->St->VC):VC:=
 match f with
 |.fn k caps=>match look cx.Γ k with
  |some (q,sp)=>match still&&!q with
   |true =>.ff
   |false=>sp (args++caps.map fun n =>.one (.ref n 0)) st K
  |none =>.ff
 |_ =>.ff
def tQ(cx:Cx)(d:Option Tmp):Bool:=
 match d with
 |some d=>pL d cx.hint
 |none=>false
def Dr(cx:Cx)(st:St)(o:Oper)(c:Call)(K:SV->St->VC):VC:=
 match c.callee with
 |.value f=>Ue cx st (tQ cx o.dst) (eZ st.env f) (c.args.toList.map fun x=>sZ st.env x) K
 |.builtin .append=>match c.args.toList,c.argTypes.toList with
  |[s,x],[t,t']=>match ab t t' with
   |true=>match eZ st.env s,eZ st.env x with
    |.xd n .top,.xd m .top=>Gy cx st t n m K
    |.bC n,x=>match tQ cx o.dst with
     |true=>Dq cx st t n x K
     |false=>w5 cx false st t (.bC n) x K
    |s,x=>w5 cx (tQ cx o.dst) st t s x K
   |false=>match look cx.τ t,look cx.τ t',eZ st.env s,eZ st.env x with
    |some (.slice (.int .u8)),some .str,.app e' xs n,.d .str ys=>EB st (.int .u8) (bT ys) e' xs n K
    |_,_,_,_ =>.ff
  |_,_ =>.ff
 |.builtin .copy=>match c.args.toList,c.argTypes.toList with
  |[d,s],[t,_]=>KC cx st t (eZ st.env d) (eZ st.env s) K
  |_,_ =>.ff
 |.builtin .max=>match c.args.toList with
  |[x,y]=>Rh true (eZ st.env x) (eZ st.env y) fun c=>K (.s (.one c)) st
  |_ =>.ff
 |.builtin .min=>match c.args.toList with
  |[x,y]=>Rh false (eZ st.env x) (eZ st.env y) fun c=>K (.s (.one c)) st
  |_ =>.ff
 |_=>qR cx st o.op fun sv=>K sv st
def bytesOf(ys:List Int):List UInt8:=ys.map fun n=>UInt8.ofNat n.toNat
def w8(st:St)(x:C)(K:C->VC):VC:=
 match zI st (.int .u8) x with
 |some ys =>.and (ys.length<=aI) (K (.d .str (bytesOf ys)))
 |none =>.ff
def w9(st:St)(x:C)(K:SV->St->VC):VC:=
 match x with
 |.d .str s=>K (.s (.one (.d (.slice (.int .u8)) (bT s)))) st
 |_ =>.ff
def Ds(cx:Cx)(st:St)(o:Oper)(s t:TypeId)(x:Operand)(K:SV->St->VC):VC:=
 match look cx.τ s,look cx.τ t with
 |some (.slice (.int .u8)),some .str=>w8 st (eZ st.env x) fun c=>K (.s (.one c)) st
 |some .str,some (.slice (.int .u8))=>w9 st (eZ st.env x) K
 |_,some (.int _)=>qR cx st o.op fun sv=>K sv st
 |_,_ =>.ff
def isRow:C->Bool
 |.bC _=>true
 |_=>false
def PM(st:St)(n:Nat)(ps:List (Nat×Operand)):Option dC:=
 match n,ps with
 |1,[(0,x)]=>match sZ st.env x with
  |.one (.bC m)=>some (.one (.bC m))
  |.agg cs=>match cs.any isRow with
   |true=>some (.agg cs)
   |false=>none
  |_=>none
 |_,_=>none
def Ri(cx:Cx)(st:St)(o:Oper)(x:Operand)(K:SV->St->VC):VC:=
 match tQ cx o.dst,ev st.env x with
 |true,.s (.one .lz)=>Dp cx st x o.type K
 |_,_=>BG cx st x o.type K
def Hs(cx:Cx)(st:St)(t:TypeId)(n:Nat)(ps:List (Nat×Operand))(K:SV->St->VC):VC:=
 match PM st n ps with
 |some v=>zO cx st t v K
 |none=>tN cx st t n ps fun c=>K (.s (.one c)) st
def aa8:Nat:=5000000
def KK(cx:Cx)(v:dC):Option Nat:=
 match pL aa8 cx.hint,v with
 |true,.one (.bC n)=>some n
 |_,_=>none
def Uf{cx:Cx}{v:dC}{n:Nat}(h:KK cx v=some n):v=.one (.bC n):=by
 unfold KK at h;split at h
 ·cases h;rfl
 ·cases h
def acE(cx:Cx)(st:St)(t:TypeId)(x:C)(v:dC)(K:SV->St->VC):VC:=
 match x with
 |.xd n (.cell i j)=>match look cx.τ t with
  |some ty=>zP st n i j ty v K
  |none =>.ff
 |x=>match KK cx v with
  |some n=>match look st.aH n with
   |some (.bC e zs)=>BH cx (bH st n) t x (.one (.d (.slice e) zs)) K
   |_ =>.ff
  |none=>BH cx st t x v K
def EL(cx:Cx)(st:St)(o:Oper)(K:SV->St->VC):VC:=
 match o.op with
 |.convert s t x=>Ds cx st o s t x K
 |.move x=>BG cx st x o.type K
 |.assign x=>Ri cx st o x K
 |.alloc t=>match look cx.uC t with
  |some e=>K (.s (.one (.gA st.next))) (fresh st (.ext 2 me ([],(t:Int),(e:Int),())))
  |none=>PG cx st t K
 |.box t x=>aaF cx st t (sZ st.env x) K
 |.build t ps=>Gx cx st t ps.toList fun sv=>K sv st
 |.buildSlice t n ps=>match tQ cx o.dst with
  |true=>w7 cx st t n ps.toList K
  |false=>Hs cx st t n ps.toList K
 |.makeSlice t l c=>vr cx st t (eZ st.env l) (eZ st.env c) K
 |.store t x v=>acE cx st t (eZ st.env x) (sZ st.env v) K
 |.makeFunc fn first caps=>match fn,first.toList,tP st st.env caps.toList with
  |.func f,[],some ns=>K (.s (.one (.fn f ns))) st
  |_,_,_ =>.ff
 |.call c=>Dr cx st o c K
 |op=>qR cx st op fun sv=>K sv st
def zS(cx:Cx)(st:St)(o:Oper)(K:SV->St->VC):VC:=
 match EJ cx st o K with
 |some vc=>vc
 |none=>EL cx st o K
def kindOf(cx:Cx)(o:Oper):Nat:=
 match o.op with
 |.move _|.assign _=>0
 |.convert _ t _=>match look cx.τ t with
  |some (.int _)=>0
  |_=>3
 |.pick _ _ _|.unOp _ _ _|.extract _ _|.binOp _ _ _ _ _|.makeInterface _ _|.typeAssert _ _ _ _|.index _ _ _|.build _ _|.nilCheck _|.indexAddr _ _ _|.fieldAddr _ _ _|.slice _ _ _ _ _|.makeFunc _ _ _=>0
 |.load _ _=>1
 |.alloc _|.box _ _|.buildSlice _ _ _|.makeSlice _ _ _=>2
 |.call c=>match c.callee with
  |.builtin .len=>match c.argTypes.toList with
   |[t]=>match look cx.su t with
    |some _=>3
    |none=>0
   |_=>0
  |.builtin .max=>0
  |.builtin .min=>0
  |.value (.func f)=>match look cx.Γ f with
   |some (true,_)=>2
   |_=>3
  |.value _=>match tQ cx o.dst with
   |true=>2
   |false=>3
  |_=>3
 |_=>3
section
variable{X:Ext}{P:Program}{cx:Cx}
def J3(cx:Cx)(X:Ext)(O:aK)(K:SV->St->VC)(st:St)(S:bQ)(loud:Bool)(a:Act)(dst:Option Tmp):Act->World->Prop:=
 fun a' w'=>∃v sv st' loc',a'=a.put dst v/\(K sv st').holds/\st'.env=st.env/\(loud=false->Below S.w.heap.size S.w w')/\Good cx.eT X (aC O st' loc' w')/\Tr S (aC O st' loc' w')/\eL cx.eT (aC O st' loc' w') sv v
structure bY (P:Program) (eT:TypeId) (X:Ext) (f:FuncId) (quiet:Bool) (sp:aX):Prop where
 fn:∃fn,P.funcs[f]?=some fn/\fn.body.isNone=false/\(fn.name == "runtime.NumGoroutine")=false
 ok:∀O st loc w args vs K,(sp args st K).holds->Good eT X (aC O st loc w)->fT O w->dE eT (aC O st loc w) args vs->
  Calls P f vs.toArray w fun e w'=>∃v sv st' loc',e=.returned v/\(K sv st').holds/\st'.env=st.env/\(quiet=true->Below w.heap.size w w')/\Good eT X (aC O st' loc' w')/\
   Tr (aC O st loc w) (aC O st' loc' w')/\eL eT (aC O st' loc' w') sv v
structure mW (P:Program) (cx:Cx) (X:Ext):Prop extends TyOK P cx where
 calls:∀f q sp,look cx.Γ f=some (q,sp)->bY P cx.eT X f q sp
variable{Q:Exit->Act->World->Prop}
def fX{o:Oper}{a:Act}{w w':World}{v:Value}{Kw:Act->World->Prop}(h:(execOp a.eval o).run P w=.ok (.value v) w')(hk:Kw (a.put o.dst v) w'):o.wp P a w Kw Q:=by
 unfold bk;rw[h];exact hk
def zT{f:FuncId}{fn:Func}(hfn:P.funcs[f]?=some fn)(hbody:fn.body.isNone=false)(hname:(fn.name == "runtime.NumGoroutine")=false)(args:Array Value)(w:World) :
  (callFunc f args).run P w=.ok (.enter f args) w:=by
 unfold callFunc;simp only[af,run_program,ar,hfn,hname,hbody,a7,if_false,ak]
def zU{O:aK}{st:St}{loc:Nat->Loc}{w:World}{a:Act}(he:iu cx.eT (aC O st loc w) st.env a):∀{xs:List Operand} {ns:List Nat},tP st st.env xs=some ns->
  xs.map a.eval=ns.map (fun n=>(loc n).v)/\∀n∈ns,n<st.next/\(aC O st loc w).fixed n:=by
 intro xs;induction xs with
 |nil=>intro ns h;simp[tP]at h;subst h;simp
 |cons x xs ih=>
  intro ns h;simp only[tP]at h;split at h
  ·rename_i n ns' hx hxs
   split at h
   ·rename_i T cs hob
    cases h;obtain⟨k1,k2⟩:=ih hxs;have hr:=cA he x;rw[hx]at hr;obtain⟨b,h1,h2⟩:=hr.2 _ _ hob;refine⟨by simp only[List.map_cons,k1];congr 1;rw[h2];exact h1.symm,fun m hm =>?_⟩;rcases ag.1 hm with rfl|hm
    ·exact⟨hr.1,fun t ys e=>by simp only[aC]at e;rw[hob]at e;cases e⟩
    ·exact k2 m hm
   ·cases h
  ·cases h
def dE.append{eT:TypeId}{S:bQ}{xs ys:List dC}{us vs:List Value}(h:dE eT S xs us)(h':dE eT S ys vs):dE eT S (xs++ys) (us++vs):=by
 induction h with
 |nil=>exact h'
 |cons h1 _ ih=>exact .cons h1 ih
def Yj{O:aK}{st:St}{loc:Nat->Loc}{w:World}(g:Good cx.eT X (aC O st loc w)):∀{ns:List Nat},(∀n∈ns,n<st.next)->dE cx.eT (aC O st loc w) (ns.map fun n =>.one (.ref n 0)) (ns.map fun n=>(loc n).v):=by
 intro ns;induction ns with
 |nil=>intro _;exact .nil
 |cons n ns ih=>
  intro h;refine .cons ⟨h n (by simp),fun T cs hob =>?_⟩ (ih fun m hm=>h m (by simp[hm]));obtain⟨_,b,vs,hl,_⟩:=g.obj _ _ hob;exact⟨b,hl,hl⟩
def KL{S:bQ}{env:List (Nat×SV)}{a:Act}(he:iu cx.eT S env a):∀(xs:List Operand),dE cx.eT S (xs.map fun x=>sZ env x) (xs.map a.eval)
 |[] =>.nil
 |x :: xs =>.cons (mV he x) (KL he xs)
def xa{S:bQ}{mx:Bool}{x y:C}{K:C->VC}{v1 v2:Value}(hx:CR cx.eT S x v1)(hy:CR cx.eT S y v2)(h:(Rh mx x y K).holds) :
  ∃c v,(K c).holds/\CR cx.eT S c v/\∀w,(if mx then dv v1 v2 else dw v1 v2).run P w=.ok v w:=by
 unfold Rh at h;split at h
 ·rename_i k a k' b
  obtain⟨rfl,ha⟩:=dG.1 hx;obtain⟨rfl,hb⟩:=dG.1 hy;split at h
  ·rename_i hk
   simp at hk;subst hk;refine⟨_,_,h,dG.2 ⟨rfl,?_⟩,fun w=>by simp[dv,Rg]⟩;unfold Rg;split <;> assumption
  ·rename_i hk
   simp at hk;subst hk;refine⟨_,_,h,dG.2 ⟨rfl,?_⟩,fun w=>by simp[dw,Yi]⟩;unfold Yi;split <;> assumption
  ·exact h.elim
 ·exact h.elim
def foldl_push(ns:List Int):∀s:ByteArray,ns.foldl (fun r n=>r.push (UInt8.ofNat n.toNat)) s=⟨s.data++(bytesOf ns).toArray⟩:=by
 induction ns with
 |nil=>intro s;simp[bytesOf]
 |cons n ns ih=>
  intro s;rw[cu,ih];simp[bytesOf,ByteArray.push]
def aa9{eT:TypeId}{A:aK}{w:World}{ys:List Int}{cs:List Value}(hl:cs.length=ys.length)(h:il eT (.int .u8) ys A w cs):cs=ys.map (Value.int .u8):=by
 apply List.ext_getElem?;intro i;cases hy:ys[i]? with
 |none=>
  have:ys.length<=i:=List.getElem?_eq_none_iff.1 hy;rw[List.getElem?_eq_none (by omega),List.getElem?_eq_none (by simpa using this)]
 |some y=>
  obtain⟨us,h1,h2⟩:=h i y hy;obtain⟨rfl,_⟩:=h1;have:=h2 0 _ rfl;simp only[Ty.size,cw,cy]at this;rw[this,List.getElem?_map,hy];rfl
def GA(hok:TyOK P cx){O:aK}{st:St}{loc:Nat->Loc}{w:World}(g:Good cx.eT X (aC O st loc w)){s t:TypeId}(hs:look cx.τ s=some (.slice (.int .u8)))(ht:look cx.τ t=some .str)
  {x:C}{v0:Value}(hx:CR cx.eT (aC O st loc w) x v0){K:C->VC}(h:(w8 st x K).holds) :
  ∃c v,(K c).holds/\CR cx.eT (aC O st loc w) c v/\(convert s t v0).run P w=.ok v w:=by
 obtain⟨_,i1,d1,hf1,hs1⟩:=gF hok hs;cases d1 <;> simp[cT]at hs1;rename_i te;have hu:=hf1.jK;obtain⟨_,_,d3,_,hf3,hs3⟩:=mH hs1;have hte:P.underlying te=some (.int .u8):=by
  cases d3 <;> simp[cT]at hs3;subst hs3;exact hf3.jK
 obtain⟨_,i2,d2,hf2,hs2⟩:=gF hok ht;have hd2:d2=.string:=by cases d2 <;> simp[cT]at hs2;rfl
 subst hd2;unfold w8 at h;split at h
 ·rename_i ys hys
  obtain⟨hlen,h⟩:=h;refine⟨_,.string ⟨(bytesOf ys).toArray⟩,h,kZ.2 ⟨rfl,by simpa[bytesOf]using hlen⟩,?_⟩;rcases w6 g hys hx with⟨rfl,a0,c0,rfl⟩|⟨b,o,cap,cs,rfl,h1,h2,h3,_⟩
  ·rcases a0 with _|a0
   ·rw[run_convert_bytes_string w s t te none 0 c0 hu hte hf2.jK]
    rfl
   ·rw[run_convert_bytes_string w s t te _ _ _ hu hte hf2.jK]
    rw[run_bytesToString w a0 0 c0 [],foldl_push]
    ·simp
    ·have:=run_loadCells_list (P:=P) w a0 [] (fun j u hj=>by simp at hj)
     simpa using this
  ·rw[run_convert_bytes_string w s t te _ _ _ hu hte hf2.jK]
   simp only[Ty.size,cw]at h1;have hcs:=aa9 h1 h3;rw[run_bytesToString w ⟨b,o,none⟩ ys.length cap ys,foldl_push]
   ·simp
   ·rw[<-h1,run_loadCells_list w _ cs (fun j u hj=>by rw[bt];exact h2 j u hj),hcs]
 ·exact h.elim
def Co(s:List UInt8)(i:Nat):(bT s)[i]?=s[i]?.map fun b=>(b.toNat:Int):=by
 simp[bT]
def GB(hok:TyOK P cx){O:aK}{st:St}{loc:Nat->Loc}{w:World}(g:Good cx.eT X (aC O st loc w))(hO:fT O w){s t:TypeId}(hs:look cx.τ s=some .str)(ht:look cx.τ t=some (.slice (.int .u8)))
  {x:C}{v0:Value}(hx:CR cx.eT (aC O st loc w) x v0){K:SV->St->VC}(h:(w9 st x K).holds) :
  ∃sv v w',(K sv st).holds/\eL cx.eT (aC O st loc w') sv v/\(convert s t v0).run P w=.ok v w'/\Below w.heap.size w w':=by
 obtain⟨_,i1,d1,hf1,hs1⟩:=gF hok ht;cases d1 <;> simp[cT]at hs1;rename_i te;obtain⟨_,_,d3,_,hf3,hs3⟩:=mH hs1;have hte:P.underlying te=some (.int .u8):=by
  cases d3 <;> simp[cT]at hs3;subst hs3;exact hf3.jK
 obtain⟨_,i2,d2,hf2,_⟩:=gF hok hs;unfold w9 at h;split at h
 case h_2=>exact h.elim
 rename_i s0;obtain⟨rfl,hbig⟩:=kZ.1 hx;have hrun:=Lib.run_convert_string_bytes (P:=P) w s t te ⟨s0.toArray⟩ hf2.jK hf1.jK hte;have hbl:Below w.heap.size w (Lib.bytesWorld w te ⟨s0.toArray⟩):=⟨rfl,rfl,by rw[Lib.bytesWorld_size];omega,fun k hk=>Lib.bytesWorld_at_old w te _ k hk⟩;refine⟨_,_,_,h,?_,hrun,hbl⟩;have hA:∀o,¬(aC O st loc w).A w.heap.size o:=by
  rintro o (h|⟨n,oc,h1,h2,_⟩)
  ·exact absurd (hO _ _ h) (Nat.lt_irrefl _)
  ·exact absurd ((g.obj n oc h1).2.inside _ h2) (Nat.lt_irrefl _)
 have hsz:(⟨s0.toArray⟩:ByteArray).size=s0.length:=by simp[ByteArray.size]
 show VR cx.eT (.slice (.int .u8)) (bT s0) _ _ _;refine VR.cZ rfl ⟨_,rfl,by simpa[bT]using hbig,.inr ⟨w.heap.size,0,grownCap w s0.length 0 te,by rw[hsz];simp[bT],by simp only[bT,b9];exact grownCap_ge _ _ _ _,fun i y hy=>⟨[.int .u8 y],?_,?_⟩⟩⟩
 ·rw[Co]at hy
  cases hb:s0[i]? with
  |none=>rw[hb]at hy;cases hy
  |some b=>
   rw[hb]at hy;cases hy;have h1:=b.toNat_lt;have h2:ca.min=0:=by decide
   have h3:ca.max=255:=by decide
   refine⟨rfl,?_,?_⟩
   ·show ca.min<=((b.toNat:Nat):Int);omega
   ·show((b.toNat:Nat):Int)<=ca.max;omega
 ·intro j u hj
  cases j with
  |succ j=>simp at hj
  |zero=>
   simp at hj;subst hj;refine⟨?_,hA _⟩;rw[Co]at hy;cases hb:s0[i]? with
   |none=>rw[hb]at hy;cases hy
   |some b=>
    rw[hb]at hy;cases hy;have hlt:i<s0.length:=(List.getElem?_eq_some_iff.1 hb).1;have:=Lib.bytesWorld_cell w te ⟨s0.toArray⟩ i (by rw[hsz];exact hlt);simp only[aC,Ty.size,cw,ay,cy];rw[this];simp[List.getD,hb]
def Ug(hok:mW P cx X){O:aK}{st:St}{loc:Nat->Loc}{w:World}{a:Act}(g:Good cx.eT X (aC O st loc w))(hO:fT O w)(he:iu cx.eT (aC O st loc w) st.env a)
  {o:Oper}{K:SV->St->VC}(h:(EL cx st o K).holds):o.wp P a w (J3 cx X O K st (aC O st loc w) (ab (kindOf cx o) 3) a o.dst) Q:=by
 have read:(qR cx st o.op fun sv=>K sv st).holds->o.wp P a w (J3 cx X O K st (aC O st loc w) (ab (kindOf cx o) 3) a o.dst) Q:=by
  intro h;obtain⟨sv,v,h1,h2,h3⟩:=Ku hok.toTyOK g he h;exact fX h3 ⟨v,sv,st,loc,rfl,h1,rfl,fun _=>Below.refl _ _,g,Tr.refl _,h2⟩
 have mov:∀x ty,(execOp a.eval o).run P w=.ok (.value (a.eval x)) w->(BG cx st x ty K).holds->o.wp P a w (J3 cx X O K st (aC O st loc w) (ab (kindOf cx o) 3) a o.dst) Q:=by
  intro x ty hrun h;obtain⟨sv,st',loc',h1,h2,h3,h4,h5⟩:=Ck g hO he h;exact fX hrun ⟨_,sv,st',loc',rfl,h1,h2,fun _=>Below.refl _ _,h3,h4,h5⟩
 unfold EL at h;split at h
 ·rename_i s t x hop
  unfold Ds at h;split at h
  ·rename_i hs ht
   obtain⟨c,v,h1,h2,h3⟩:=GA hok.toTyOK g hs ht (cA he x) h;exact fX (w':=w) (by simp only[execOp,hop,af,ak];rw[h3];rfl) ⟨v,_,st,loc,rfl,h1,rfl,fun _=>Below.refl _ _,g,Tr.refl _,h2⟩
  ·rename_i hs ht
   obtain⟨sv,v,w',h1,h2,h3,h4⟩:=GB hok.toTyOK g hO hs ht (cA he x) h;obtain⟨t1,g1⟩:=qN (S:=aC O st loc w) (S':=aC O st loc w') g rfl rfl rfl rfl h4;exact fX (w':=w') (by simp only[execOp,hop,af,ak];rw[h3];rfl) ⟨v,sv,st,loc,rfl,h1,rfl,fun _=>h4,g1,t1,h2⟩
  ·exact read h
  ·exact h.elim
 ·rename_i x hop
  exact mov x _ (by simp[execOp,hop]) h
 ·rename_i x hop
  unfold Ri at h;split at h
  ·obtain⟨sv,st',loc',h1,h2,h3,h4,h5⟩:=zR g hO he h
   exact fX (w':=w) (v:=a.eval x) (by simp[execOp,hop]) ⟨_,sv,st',loc',rfl,h1,h2,fun _=>Below.refl _ _,h3,h4,h5⟩
  ·exact mov x _ (by simp[execOp,hop]) h
 ·rename_i t hop
  split at h
  ·rename_i e hslf
   obtain⟨i,hi,hz⟩:=hok.uC t e hslf;have hb:Below w.heap.size w (w.alloc (.cells #[.pointer none,.slice none 0 0] t)):=(Below.refl _ w).alloc (ai _) _;obtain⟨tr1,g1⟩:=iR (oc:=.ext 2 me ([],(t:Int),(e:Int),())) (l:=⟨.pointer (some ⟨w.heap.size,0,none⟩),[w.heap.size]⟩) g hO hb (by simp);have g1:=g1 (X.TZ.2 ⟨rfl,w.heap.size,.pointer none,.slice none 0 0,rfl,.inl rfl,heap_alloc_new w _,⟨by simp,.inl ⟨rfl,rfl⟩⟩,rfl,by simp[Value.ownBlock],(fun y hy=>by simp at hy),(fun a n c hh=>by cases hh)⟩);refine fX (w':=w.alloc (.cells #[.pointer none,.slice none 0 0] t)) (v:=.pointer (some ⟨w.heap.size,0,none⟩)) (by simp[execOp,hop,cz,zeroValue,typeInfo,hi,hz,newVar,newRow,bw])
    ⟨_,_,_,_,rfl,h,rfl,fun _=>hb,g1,tr1,⟨by simp[aC,fresh],fun oc hy hx =>?_⟩⟩
   simp[aC,cM]
  unfold PG at h;split at h
  ·rename_i ty ht
   obtain⟨m,ti,d,hf,hs⟩:=gF hok.toTyOK ht;obtain⟨z,hz,hzr⟩:=hf.zero;obtain⟨sv,st',loc',h1,h2,h3,h4,h5⟩:=T9 (t:=t) (ts:=qC ty) g hO (mI hzr) h;refine fX (w':=w.alloc (.cells z.cells.toList.toArray t)) ?_ ⟨_,sv,st',loc',rfl,h1,h2,fun _=>(Below.refl _ w).alloc (ai _) _,h3,h4,h5⟩;simp[execOp,hop,cz,zeroValue,typeInfo,hf.info,hz,newVar,newRow]
  ·split at h
   case h_2=>exact h.elim
   rename_i n te hn;split at h
   case h_2=>exact h.elim
   rename_i e he;split at h
   case h_2=>exact h.elim
   rename_i hno;obtain⟨i,z,hi,hz,hzr⟩:=hok.wY t n te e hn he;have hb:Below w.heap.size w (w.alloc (.cells z.cells.toList.toArray t)):=(Below.refl _ w).alloc (ai _) _;obtain⟨tr1,g1⟩:=iR (oc:=.arr e (dx n (cB e))) (l:=⟨.pointer (some ⟨w.heap.size,0,none⟩),[w.heap.size]⟩) g hO hb (by simp);obtain⟨hl,hel⟩:=Kz (eT:=cx.eT) (A:=(aC O (fresh st (.arr e (dx n (cB e)))) (cM loc st.next ⟨.pointer (some ⟨w.heap.size,0,none⟩),[w.heap.size]⟩) (w.alloc (.cells z.cells.toList.toArray t))).A) (w:=w.alloc (.cells z.cells.toList.toArray t)) hno hzr;have g1:=g1 ⟨w.heap.size,z.cells.toList.toArray,t,rfl,rfl,heap_alloc_new w _,by simp only[bu,List.length_replicate];exact hl,fun j y hy=>by
    obtain⟨us,k1,k2⟩:=hel j y hy;exact⟨us,k1,fun q u hq=>by simpa using k2 q u hq⟩⟩
   refine fX (w':=w.alloc (.cells z.cells.toList.toArray t)) ?_ ⟨.pointer (some ⟨w.heap.size,0,none⟩),_,_,_,rfl,h,rfl,fun _=>hb,g1,tr1,?_⟩
   ·simp[execOp,hop,cz,zeroValue,typeInfo,hi,hz,newVar,newRow]
   ·show st.next<st.next+1/\_
    refine⟨by omega,fun t' xs' hx =>?_⟩;simp[aC,cM]
 ·rename_i t x hop
  unfold aaF at h;split at h
  ·rename_i ty ht
   split at h
   ·rename_i cs0 hfl
    obtain⟨us,hus,hcr,_⟩:=uD g hfl (mV he x);obtain⟨sv,st',loc',h1,h2,h3,h4,h5⟩:=T9 (t:=t) (ts:=qC ty) g hO hcr h;refine fX (w':=w.alloc (.cells us.toArray t)) ?_ ⟨_,sv,st',loc',rfl,h1,h2,fun _=>(Below.refl _ w).alloc (ai _) _,h3,h4,h5⟩;subst hus;simp[execOp,hop,Instr.box,newVar,newRow]
   ·exact h.elim
  ·exact h.elim
 ·rename_i t ps hop
  obtain⟨sv,v,h1,h2,h3⟩:=yN hok.toTyOK g he h;exact fX (by have:=h3 w;simp only[execOp,hop,af,ak];rw[this];rfl) ⟨v,sv,st,loc,rfl,h1,rfl,fun _=>Below.refl _ _,g,Tr.refl _,h2⟩
 ·rename_i t n ps hop
  split at h
  ·obtain⟨sv,v,st',loc',w',h1,h2,h3,h4,h5,h6,h7⟩:=Dl hok.toTyOK g hO he h
   exact fX (by simp only[execOp,hop,af,ak];rw[h7];rfl) ⟨v,sv,st',loc',rfl,h1,h3,fun _=>h2,h4,h5,h6⟩
  unfold Hs at h;split at h
  ·rename_i sv0 hown
   have hp:∃x,n=1/\ps.toList=[(0,x)]/\jG cx.eT (aC O st loc w) sv0 (a.eval x):=by
    unfold PM at hown;split at hown
    ·rename_i x hps
     have hr:=mV he x;split at hown
     ·rename_i m hm;cases hown;exact⟨x,rfl,hps,by rw[<-hm];exact hr⟩
     ·rename_i cs hm
      split at hown
      ·cases hown;exact⟨x,rfl,hps,by rw[<-hm];exact hr⟩
      ·cases hown
     ·cases hown
    ·cases hown
   obtain⟨x,rfl,hps,hr⟩:=hp;obtain⟨sv,v,st',loc',w',h1,h2,h3,h4,h5,h6,h7⟩:=EF hok.toTyOK g hO hr h;have hps':ps= #[(0,x)]:=aj.1 hps;exact fX (w':=w') (v:=v) (by simp only[execOp,hop,af,ak,hps'];rw[show(#[(0,x)]:Array (Nat×Operand)).map (fun(i,x)=>(i,a.eval x))= #[(0,a.eval x)]from by simp,h7];rfl) ⟨v,sv,st',loc',rfl,h1,h2,fun _=>h3,h4,h5,h6⟩
  obtain⟨c,v,w',h1,h2,h3,h4,h5,h6⟩:=zM hok.toTyOK g hO he h;exact fX (by simp only[execOp,hop,af,ak];rw[h6];rfl) ⟨v,_,st,loc,rfl,h1,rfl,fun _=>h2,h3,h4,h5⟩
 ·rename_i t l c hop
  obtain⟨sv,v,st',loc',w',h1,h2,h3,h4,h5,h6,h7⟩:=Cc hok.toTyOK g hO (cA he l) (cA he c) h;exact fX (by simp only[execOp,hop,af,ak];rw[h7];rfl) ⟨v,sv,st',loc',rfl,h1,h3,fun _=>h2,h4,h5,h6⟩
 ·rename_i t x v hop
  have hst:∃st' loc' w',(K (.s (.one .any)) st').holds/\st'.env=st.env/\Good cx.eT X (aC O st' loc' w')/\Tr (aC O st loc w) (aC O st' loc' w')/\(Instr.storeAt t (a.eval x) (a.eval v)).run P w=.ok () w':=by
   have hx:=cA he x;unfold acE at h;split at h
   ·rename_i n i j hl
    rw[hl]at hx;split at h
    ·rename_i ty ht
     obtain⟨_,_,_,hf,_⟩:=gF hok.toTyOK ht;exact EG g hO hf hx (mV he v) h
    ·exact h.elim
   ·split at h
    ·rename_i n hr
     split at h
     ·rename_i e zs hob
      have hv:=mV he v;rw[Uf hr]at hv;obtain⟨td,gd⟩:=oN g n;obtain⟨st',loc',w',k1,k2,k3,k4,k5⟩:=yM (v:=.one (.d (.slice e) zs)) hok.toTyOK gd hO (hx.tr td) (Cn g hob hv) h;exact⟨st',loc',w',k1,k2,k3,td.trans k4,k5⟩
     ·exact h.elim
    ·exact yM hok.toTyOK g hO hx (mV he v) h
  obtain⟨st',loc',w',h1,h2,h3,h4,h5⟩:=hst;have hrun:(execOp a.eval o).run P w=.ok .skip w':=by
   simp only[execOp,hop,af,ak];rw[h5];rfl
  unfold bk;rw[hrun];have hk:ab (kindOf cx o) 3=true:=by simp[kindOf,hop]
  exact⟨undef,_,st',loc',rfl,h1,h2,fun e=>(by rw[hk]at e;cases e),h3,h4,aa⟩
 ·rename_i fn first caps hop
  split at h
  ·rename_i f ns hfi hcn
   obtain⟨k1,k2⟩:=zU he hcn;have hfi':first= #[]:=aj.1 hfi
   have hca:caps.map a.eval=(ns.map fun n=>(loc n).v).toArray:=by
    apply aj.1;rw[dy,k1]
   refine fX (w':=w) (v:=.func (.func f) #[] (ns.map fun n=>(loc n).v).toArray) ?_ ⟨_,_,st,loc,rfl,h,rfl,fun _=>Below.refl _ _,g,Tr.refl _,⟨rfl,k2⟩⟩;simp[execOp,hop,dz,hfi',hca]
  ·exact h.elim
 ·rename_i c hop
  unfold Dr at h;split at h
  ·rename_i f hcal
   unfold Ue at h;split at h
   ·rename_i k caps hf
    split at h
    ·rename_i q sp hsp
     split at h
     ·exact h.elim
     rename_i hstill;obtain⟨⟨fn,hfn,hbody,hname⟩,hcall⟩:=hok.calls k q sp hsp;have hr:=cA he f;rw[hf]at hr;obtain⟨hfv,hcaps⟩:=hr;have hargs:=(KL he c.args.toList).append (Yj g (ns:=caps) fun n hn=>(hcaps n hn).1);have:=hcall O st loc w _ _ K h g hO hargs;have hrun:(execOp a.eval o).run P w=.ok (.enter k (c.args.toList.map a.eval++caps.map fun n=>(loc n).v).toArray) w:=by
      have e1:(c.args.map a.eval)++(caps.map fun n=>((aC O st loc w).loc n).v).toArray=(c.args.toList.map a.eval++caps.map fun n=>(loc n).v).toArray:=by
       apply aj.1;simp[aC]
      have e2:resolve a.eval c o.type=pure {target:=.fn (.func k) (caps.map fun n=>((aC O st loc w).loc n).v).toArray,args:=c.args.map a.eval}:=by
       simp[resolve,hcal,hfv,Deferred.ofValue]
      simp only[execOp,hop,e2,pure_bind,invoke,e1];exact zT hfn hbody hname _ w
     unfold bk;rw[hrun];refine bx this ?_;rintro e w' ⟨v,sv,st',loc',rfl,k1,k2,k3,k4,k5,k6⟩;refine⟨v,sv,st',loc',rfl,k1,k2,fun hl =>?_,k4,k5,k6⟩;cases q with
     |true=>exact k3 rfl
     |false=>
      exfalso;have:kindOf cx o=3:=by
       unfold kindOf;simp only[hop,hcal];split
       ·rename_i heq;cases heq
       ·rename_i heq;cases heq
       ·rename_i heq;cases heq
       ·rename_i f' heq
        have hfe:f=.func f':=by cases heq;rfl
        subst hfe;simp only[eZ,ev]at hf;cases hf;rw[hsp]
       ·rw[show tQ cx o.dst=false by simpa using hstill]
       ·rfl
      rw[this]at hl;cases hl
    ·exact h.elim
   ·exact h.elim
  ·rename_i hcal
   split at h
   ·rename_i s x t t' harg hty
    split at h
    ·rename_i htt
     have htt:=ah htt;subst htt;have h1:c.args= #[s,x]:=aj.1 harg;have h2:c.argTypes= #[t,t]:=aj.1 hty;have happ:∃sv v st' loc' w',(K sv st').holds/\st'.env=st.env/\Good cx.eT X (aC O st' loc' w')/\Tr (aC O st loc w) (aC O st' loc' w')/\eL cx.eT (aC O st' loc' w') sv v/\
       (b6 #[t,t] o.type #[a.eval s,a.eval x]).run P w=.ok v w':=by
      have hs:=cA he s;have hx:=cA he x;split at h
      ·rename_i n m hl1 hl2
       rw[hl1]at hs;rw[hl2]at hx;exact JO hok.toTyOK g hO hs hx h
      ·rename_i n hl1
       rw[hl1]at hs;split at h
       ·exact KJ hok.toTyOK g hO hs hx h
       ·exact wj (P:=P) (ty:=o.type) hok.toTyOK g hO hs hx h
      ·exact wj (P:=P) (ty:=o.type) hok.toTyOK g hO hs hx h
     obtain⟨sv,v,st',loc',w',k1,k2,k3,k4,k5,k6⟩:=happ;have hk:ab (kindOf cx o) 3=true:=by simp[kindOf,hop,hcal]
     refine fX (w':=w') (v:=v) ?_ ⟨v,sv,st',loc',rfl,k1,k2,fun e=>(by rw[hk]at e;cases e),k3,k4,k5⟩;simp[execOp,hop,resolve,hcal,h1,h2,invoke,builtin,k6]
    ·split at h
     case h_2=>exact h.elim
     rename_i e' xs n ys ht1 ht2 hs1 hx1;have h1:c.args= #[s,x]:=aj.1 harg;have h2:c.argTypes= #[t,t']:=aj.1 hty;obtain⟨te,ti,td,hu,hf⟩:=jb hok.toTyOK ht1;obtain⟨z,hz,hzr⟩:=hf.zero;have hzs:z.cells.size=(Ty.int .u8).size:=by rw[<-b7];exact(mI (S:=aC O st loc w) (cx:=cx) hzr).length.symm.trans (kd _)
     have hs:=cA he s;have hx:=cA he x;rw[hs1]at hs;rw[hx1]at hx;obtain⟨hx,hxl⟩:=kZ.1 hx;have hu':P.underlying t'=some .string:=BE hok.toTyOK ht2;obtain⟨sv,v,st',loc',w',k1,k2,k3,k4,k5,k6⟩:=vq (t:=t) (t':=t') (ty:=o.type) g hO hu hf hz hzs hs (zJ.acC hu hu' hf hz ys _ _) h;have hk:ab (kindOf cx o) 3=true:=by simp[kindOf,hop,hcal]
     refine fX (w':=w') (v:=v) ?_ ⟨v,sv,st',loc',rfl,k1,k2,fun e=>(by rw[hk]at e;cases e),k3,k4,k5⟩;simp[execOp,hop,resolve,hcal,h1,h2,invoke,builtin,hx,k6]
   ·exact h.elim
  ·rename_i hcal
   split at h
   ·rename_i d s t t' harg hty
    have h1:c.args= #[d,s]:=aj.1 harg;have h2:c.argTypes= #[t,t']:=aj.1 hty;obtain⟨sv,v,st',loc',w',k1,k2,k3,k4,k5,k6⟩:=KE (P:=P) (t':=t') (ty:=o.type) hok.toTyOK g hO (cA he d) (cA he s) h;have hk:ab (kindOf cx o) 3=true:=by simp[kindOf,hop,hcal]
    refine fX (w':=w') (v:=v) ?_ ⟨v,sv,st',loc',rfl,k1,k2,fun e=>(by rw[hk]at e;cases e),k3,k4,k5⟩;simp[execOp,hop,resolve,hcal,h1,h2,invoke,builtin,k6]
   ·exact h.elim
  ·rename_i hcal
   split at h
   ·rename_i x y harg
    have h1:c.args= #[x,y]:=aj.1 harg;obtain⟨c',v,k1,k2,k3⟩:=xa (P:=P) (cA he x) (cA he y) h;refine fX (w':=w) (v:=v) ?_ ⟨v,_,st,loc,rfl,k1,rfl,fun _=>Below.refl _ _,g,Tr.refl _,k2⟩;have k3:=k3 w;simp only[if_true]at k3;simp[execOp,hop,resolve,hcal,h1,invoke,builtin,dT,k3]
   ·exact h.elim
  ·rename_i hcal
   split at h
   ·rename_i x y harg
    have h1:c.args= #[x,y]:=aj.1 harg;obtain⟨c',v,k1,k2,k3⟩:=xa (P:=P) (cA he x) (cA he y) h;refine fX (w':=w) (v:=v) ?_ ⟨v,_,st,loc,rfl,k1,rfl,fun _=>Below.refl _ _,g,Tr.refl _,k2⟩;have k3:=k3 w;simp only[a7,if_false]at k3;simp[execOp,hop,resolve,hcal,h1,invoke,builtin,ec,k3]
   ·exact h.elim
  ·exact read h
 ·exact read h
def xb{st:St}{o:Oper}{K:SV->St->VC}{vc:VC}(h:EJ cx st o K=some vc):kindOf cx o=3:=by
 unfold EJ at h;split at h
 ·rename_i hop;simp[kindOf,hop]
 ·rename_i hop;simp[kindOf,hop]
 ·rename_i hop;simp[kindOf,hop]
 ·rename_i hop;simp[kindOf,hop]
 ·rename_i hop;simp[kindOf,hop]
 ·rename_i hop;simp[kindOf,hop]
 ·rename_i c hop
  split at h
  ·rename_i hcal;simp[kindOf,hop,hcal]
  ·rename_i hcal
   split at h
   ·rename_i x t harg hty
    split at h
    ·rename_i p hp;simp[kindOf,hop,hcal,hty,hp]
    ·cases h
   ·cases h
  ·cases h
 ·cases h
def Yk(hok:mW P cx X){O:aK}{st:St}{loc:Nat->Loc}{w:World}{a:Act}(g:Good cx.eT X (aC O st loc w))(hO:fT O w)(he:iu cx.eT (aC O st loc w) st.env a)
  {o:Oper}{K:SV->St->VC}(h:(zS cx st o K).holds):o.wp P a w (J3 cx X O K st (aC O st loc w) (ab (kindOf cx o) 3) a o.dst) Q:=by
 unfold zS at h;split at h
 ·rename_i vc hm
  have hk:ab (kindOf cx o) 3=true:=by rw[xb hm];rfl
  obtain⟨sv,v,st',loc',w',h1,h2,h3,h4,h5,h6⟩:=NY hok.toTyOK g hO he hm h;rcases h6 with h6|⟨h6,rfl⟩
  ·exact fX h6 ⟨v,sv,st',loc',rfl,h1,h2,fun e=>(by rw[hk]at e;cases e),h3,h4,h5⟩
  ·unfold bk
   rw[h6];exact⟨undef,_,st',loc',rfl,h1,h2,fun e=>(by rw[hk]at e;cases e),h3,h4,aa⟩
 ·exact Ug hok g hO he h
end
inductive sw (ops:Array Oper) (i:Nat):Nat->Prop
 |dir {j o e}:ops[j]?=some o->e∈o.after->ao .any e=true->e.on=i->sw ops i j
 |step {j o e}:ops[j]?=some o->e∈o.after->ao .any e=true->sw ops i e.on->sw ops i j
def wm(ops:Array Oper)(listed:Array Bool):Prop:=
 ∀j o,ops[j]?=some o->listed.getD j false=true->∀e∈o.after,ao .any e=true->listed.getD e.on false=true
def sw.listed{ops:Array Oper}{listed:Array Bool}{i j:Nat}(h:sw ops i j)(hc:wm ops listed):(∀o,ops[j]?=some o->∀e∈o.after,ao .any e=true->listed.getD e.on false=true)->listed.getD i false=true:=by
 induction h with
 |dir ho he hb hi=>intro hj;rw[<-hi];exact hj _ ho _ he hb
 |step ho he hb _ ih=>intro hj;exact ih fun o' ho'=>hc _ o' ho' (hj _ ho _ he hb)
def KM(ms:List Nat)(o:Oper):Nat:=
 o.after.toList.foldl (fun s e=>match ao .any e with
  |true=>s ||| (1<<< e.on) ||| ms.getD e.on 0
  |false=>s) 0
def rE:List Oper->List Nat->List Nat
 |[],ms=>ms
 |o :: r,ms=>rE r (ms++[KM ms o])
def EM{k i:Nat}(h:(1<<< k).testBit i=true):k=i:=by
 rw[c6,cb]at h;simpa using h
def Rj{ops:Array Oper}{ms:List Nat}(hms:∀j,j<ms.length->∀i,(ms.getD j 0).testBit i=true->sw ops i j){j:Nat}{o:Oper}(ho:ops[j]?=some o) :
  ∀i,(KM ms o).testBit i=true->sw ops i j:=by
 intro i hi;unfold KM at hi;have key:∀(l:List Edge) (s:Nat),(∀e∈l,e∈o.after)->(s.testBit i=true->sw ops i j)->
   (l.foldl (fun s e=>match ao .any e with|true=>s ||| (1<<< e.on) ||| ms.getD e.on 0|false=>s) s).testBit i=true->sw ops i j:=by
  intro l;induction l with
  |nil=>intro s _ hs h;exact hs h
  |cons e l ih=>
   intro s hl hs h;simp only[cu]at h;refine ih _ (fun e' he'=>hl e' (by simp[he'])) ?_ h;intro hb;split at hb
   ·rename_i hbind
    rw[cd,cd]at hb;simp only[c7]at hb;rcases hb with(hb|hb)|hb
    ·exact hs hb
    ·exact .dir ho (hl e (by simp)) hbind (EM hb)
    ·by_cases hlt:e.on<ms.length
     ·exact .step ho (hl e (by simp)) hbind (hms _ hlt i hb)
     ·rw[List.getD_eq_getElem?_getD,List.getElem?_eq_none (by omega)]at hb
      simp at hb
   ·exact hs hb
 exact key o.after.toList 0 (fun e he=>by simpa using he) (by simp) hi
def NZ{ops:Array Oper}:∀(r:List Oper) (ms:List Nat),(∀j,j<ms.length->∀i,(ms.getD j 0).testBit i=true->sw ops i j)->(∀k o,r[k]?=some o->ops[ms.length+k]?=some o)->
  ∀j i,((rE r ms).getD j 0).testBit i=true->sw ops i j:=by
 intro r;induction r with
 |nil=>
  intro ms hms _ j i h;by_cases hlt:j<ms.length
  ·exact hms j hlt i h
  ·simp only[rE]at h
   rw[List.getD_eq_getElem?_getD,List.getElem?_eq_none (by omega)]at h;simp at h
 |cons o r ih=>
  intro ms hms hr;refine ih _ ?_ ?_
  ·intro j hj i h
   rw[bj,ed]at hj;by_cases hlt:j<ms.length
   ·rw[List.getD_eq_getElem?_getD,List.getElem?_append_left hlt,<-List.getD_eq_getElem?_getD]at h
    exact hms j hlt i h
   ·have e:j=ms.length:=by omega
    subst e;rw[List.getD_eq_getElem?_getD,List.getElem?_append_right (ai _)]at h;simp only[Nat.sub_self,List.getElem?_cons_zero,bq]at h;exact Rj hms (by simpa using hr 0 o rfl) i h
  ·intro k o' hk
   have:=hr (k+1) o' (by simpa using hk);rw[bj,ed,show ms.length+1+k=ms.length+(k+1)from by omega];exact this
def kn(ops:List Oper):List Nat:=rE ops []
def Uh{ops:Array Oper}{i j:Nat}(h:((kn ops.toList).getD j 0).testBit i=true):sw ops i j:=
 NZ ops.toList [] (fun j hj=>by simp at hj) (fun k o hk=>by simpa using hk) j i h
def gH(w:World)(A:aK)(w':World)(A':aK):Prop:=∀b o v,¬A b o->w.cell? ⟨b,o,none⟩=some v->w'.cell? ⟨b,o,none⟩=some v/\¬A' b o
def gH.refl(w:World)(A:aK):gH w A w A:=fun _ _ _ h h'=>⟨h',h⟩
def gH.trans{w1 w2 w3:World}{A1 A2 A3:aK}(h:gH w1 A1 w2 A2)(h':gH w2 A2 w3 A3):gH w1 A1 w3 A3:=fun b o v h1 h2=>have k:=h b o v h1 h2;h' b o v k.2 k.1
abbrev Dt:=World->aK->World->aK->Prop
section
variable{P:Program}{ops:Array Oper}{Q:Exit->Act->World->Prop}{loud:Nat->Bool}
def wpS(P:Program)(ops:Array Oper)(loud:Nat->Bool)(Q:Exit->Act->World->Prop):Nat->Array Bool->Act->World->aK->Prop
 |0,listed,a,w,_=>av .any ops listed=[]/\Q .normal a w
 |n+1,listed,a,w,A=>(av .any ops listed=[]->Q .normal a w)/\
  ∀i∈av .any ops listed,wpOp P ops Q i (fun a' w'=>(loud i=false->Below w.heap.size w w')/\∃A',gH w A w' A'/\wpS P ops loud Q n (listed.setIfInBounds i true) a' w' A') a w
def GC:∀(n:Nat) (listed:Array Bool) (a:Act) (w:World) (A:aK),wpS P ops loud Q n listed a w A->wpAny P .any ops Q n listed a w
 |0,_,_,_,_,h=>h
 |n+1,_,_,_,_,h=>⟨h.1,fun i hi=>wpOp_mono (fun a' w' h'=>let⟨A',_,h2⟩:=h'.2;GC n _ a' w' A' h2) (h.2 i hi)⟩
def kA(P:Program)(ops:Array Oper)(C:Dt)(o:Oper)(v:Value)(a:Act)(w:World)(A:aK):Prop:=
 (au o (yielded ops a.tmps)=true/\∀w' A',C w A w' A'->(execOp a.eval o).run P w'=.ok (.value v) w')\/
 (au o (yielded ops a.tmps)=false/\v=undef)
def kA.of_same{C:Dt}(ht:∀a A b B c D,C a A b B->C b B c D->C a A c D){o:Oper}{v:Value}{a a':Act}{w w':World}{A A':aK}(hy:kA P ops C o v a w A)(hc:C w A w' A')(he:execOp a'.eval o=execOp a.eval o)
  (hw:au o (yielded ops a'.tmps)=au o (yielded ops a.tmps)):kA P ops C o v a' w' A':=by
 unfold kA at*;rw[he,hw];rcases hy with⟨h1,h2⟩|h
 ·exact .inl ⟨h1,fun w'' A'' hc'=>h2 w'' A'' (ht _ _ _ _ _ _ hc hc')⟩
 ·exact .inr h
def Ui{C:Dt}(ht:∀a A b B c D,C a A b B->C b B c D->C a A c D){j:Nat}{oi oj:Oper}{v:Value}(hj:ops[j]?=some oj)(hap:oi.apart ops oj=true)
  (hsi:∀cs b,oi.op≠.select cs b)(hsj:∀cs b,oj.op≠.select cs b)
  (hQ:∀c a w,Q (.panic c) (a.put oi.dst v) w->Q (.panic c) a w){K:Act->World->aK->Prop}{a:Act}{w:World}{A:aK}(hCw:∀w' A',(loud j=false->Below w.heap.size w w')->gH w A w' A'->C w A w' A')
  (hy:kA P ops C oi v a w A)(h:wpOp P ops Q j (fun a' w'=>(loud j=false->Below w.heap.size w w')/\∃A',gH w A w' A'/\K a' w' A') (a.put oi.dst v) w) :
  wpOp P ops Q j (fun a' w'=>(loud j=false->Below w.heap.size w w')/\∃A',gH w A w' A'/\kA P ops C oi v a' w' A'/\K (a'.put oi.dst v) w' A') a w:=by
 obtain⟨h1,h2,h3⟩:=Oper.apart_spec hap;have keep:∀(a:Act) (w':World) (A':aK),kA P ops C oi v a w A->C w A w' A'->∀u,kA P ops C oi v (a.put oj.dst u) w' A':=fun a w' A' hy hc u=>
  hy.of_same ht hc (execOp_put oi hsi a oj.dst u h3) (wanted_put oi a oj.dst u h3)
 have keepD:∀d,kA P ops C oi v {a with defers:=d :: a.defers} w A:=fun d=>by
  unfold kA at*;exact hy
 have fin:∀(u:Value) (w':World),((loud j=false->Below w.heap.size w w')/\∃A',gH w A w' A'/\K ((a.put oi.dst v).put oj.dst u) w' A')->
   (loud j=false->Below w.heap.size w w')/\∃A',gH w A w' A'/\kA P ops C oi v (a.put oj.dst u) w' A'/\K ((a.put oj.dst u).put oi.dst v) w' A':=by
  rintro u w' ⟨k1,A',k2,k3⟩;exact⟨k1,A',k2,keep a w' A' hy (hCw _ _ k1 k2) u,by rw[<-Act.put_comm a v u h2];exact k3⟩
 unfold wpOp at*;simp only[hj]at*;rw[wanted_put oj a oi.dst v h1]at h;split
 ·rename_i hw
  simp only[hw,if_true]at h;rcases h with h|⟨hasks,hlets⟩
  case inr=>exact .inr ⟨by unfold Oper.asks at*;rw[execOp_put oj hsj a oi.dst v h1]at hasks;exact hasks,hlets⟩
  refine .inl ?_;unfold bk at*;rw[execOp_put oj hsj a oi.dst v h1]at h;generalize (execOp a.eval oj).run P w=r at*;cases r with
  |ok n w'=>
   cases n <;> simp only[c8]at h ⊢
   case value u=>exact fin u w' h
   case skip=>exact fin _ w' h
   case defer d=>
    obtain⟨k1,A',k2,k3⟩:=h;refine⟨k1,A',k2,keep _ w' A' (keepD d) (hCw _ _ k1 k2) _,?_⟩;rw[<-Act.put_comm _ v undef h2,<-Act.put_defers];exact k3
   case enter f args=>
    refine bx h fun e w'' he =>?_
    cases e with
    |returned u=>exact fin u w'' he
    |panicked c=>exact hQ _ _ _ he
    |outgrown=>exact he
   case row row args=>exact Rows.mono h fun u w'' he=>fin u w'' he
  |halt x w'=>
   cases x <;> simp only[c8]at h ⊢
   case panic u=>exact hQ _ _ _ h
 ·rename_i hw
  simp only[hw]at h;exact fin _ w h
def kA.wpOp{C:Dt}(hr:∀w A,C w A w A){i:Nat}{o:Oper}{v:Value}{a:Act}{w:World}{A:aK}(hi:ops[i]?=some o)(hy:kA P ops C o v a w A)
  {K:Act->World->aK->Prop}(h:K (a.put o.dst v) w A):wpOp P ops Q i (fun a' w'=>(loud i=false->Below w.heap.size w w')/\∃A',gH w A w' A'/\K a' w' A') a w:=by
 unfold Go.wpOp;simp only[hi];rcases hy with⟨hw,hv⟩|⟨hw,rfl⟩
 ·simp only[hw,if_true,bk,hv w A (hr w A),c8];exact .inl ⟨fun _=>Below.refl _ _,A,gH.refl _ _,h⟩
 ·simp only[hw,a7,if_false];exact⟨fun _=>Below.refl _ _,A,gH.refl _ _,h⟩
def xc{listed:Array Bool}{i:Nat}(hc:wm ops listed)(hr:i∈av .any ops listed):wm ops (listed.setIfInBounds i true):=by
 intro j o ho hj e he hb;by_cases hij:i=j
 ·subst hij
  obtain⟨_,o',ho',hall⟩:=mem_ready.1 hr;rw[ho]at ho';cases ho';exact getD_set_true (hall e he hb)
 ·rw[getD_set_ne false hij]at hj
  exact getD_set_true (hc j o ho hj e he hb)
def Uj{C:Dt}(hrefl:∀w A,C w A w A)(ht:∀a A b B c D,C a A b B->C b B c D->C a A c D){i:Nat}{oi:Oper}{v:Value}(hi:ops[i]?=some oi)
  (hsel:∀(j:Nat) (o:Oper) cs b,ops[j]?=some o->o.op≠.select cs b)
  (hQ:∀c a w,Q (.panic c) (a.put oi.dst v) w->Q (.panic c) a w) :
  ∀(fuel:Nat) (listed:Array Bool) (a:Act) (w:World) (A:aK),wm ops listed->
   (∀j oj,ops[j]?=some oj->j≠i->listed.getD j true=false->(∀e∈oj.after,ao .any e=true->e.on≠i)->oi.apart ops oj=true)->
   ((∀w A w' A',gH w A w' A'->C w A w' A')\/((∀w A w' A',Below w.heap.size w w'->C w A w' A')/\∀j,listed.getD j true=false->j≠i->loud j=true->sw ops i j))->
   i∈av .any ops listed->kA P ops C oi v a w A->
   wpS P ops loud Q fuel (listed.setIfInBounds i true) (a.put oi.dst v) w A->wpS P ops loud Q (fuel+1) listed a w A:=by
 intro fuel;induction fuel with
 |zero=>
  intro listed a w A _ _ _ hr hy H;refine⟨fun h=>(by rw[h]at hr;cases hr),fun j hj =>?_⟩;by_cases hji:j=i
  ·subst hji;exact hy.wpOp hrefl hi H
  ·have:=ready_mono hj hji
   rw[H.1]at this;cases this
 |succ fuel ih=>
  intro listed a w A hU hfree hC hr hy H;refine⟨fun h=>(by rw[h]at hr;cases hr),fun j hj =>?_⟩;by_cases hji:j=i
  ·subst hji;exact hy.wpOp hrefl hi H
  ·have h1:=H.2 j (ready_mono hj hji)
   obtain⟨hjun,oj,hoj,hall⟩:=mem_ready.1 hj;have hiun:listed.getD i false≠true:=by
    have h0:=(mem_ready.1 hr).1;rcases a8 i listed.size with h'|h'
    ·simp[h']at h0 ⊢;exact h0
    ·simp[Array.getElem?_eq_none h']
   have hnot:∀e∈oj.after,ao .any e=true->e.on≠i:=fun e he hb heq=>hiun (heq▸hall e he hb)
   have hCw:∀w' A',(loud j=false->Below w.heap.size w w')->gH w A w' A'->C w A w' A':=by
    intro w' A' hb hd;rcases hC with hC|⟨hC1,hC2⟩
    ·exact hC w A w' A' hd
    ·refine hC1 w A w' A' (hb ?_)
     cases hl:loud j
     ·rfl
     ·exact absurd ((hC2 j hjun hji hl).listed hU (fun o ho=>by rw[hoj]at ho;cases ho;exact hall)) hiun
   have h2:=Ui ht hoj (hfree j oj hoj hji hjun hnot) (fun cs b=>hsel i oi cs b hi) (fun cs b=>hsel j oj cs b hoj) hQ hCw hy h1;have hfree':∀k ok,ops[k]?=some ok->k≠i->(listed.setIfInBounds j true).getD k true=false->
     (∀e∈ok.after,ao .any e=true->e.on≠i)->oi.apart ops ok=true:=fun k ok hk hki hun hno=>by
    refine hfree k ok hk hki ?_ hno;by_cases hjk:j=k
    ·subst hjk;exact hjun
    ·rw[getD_set_ne true hjk]at hun;exact hun
   have hC':(∀w A w' A',gH w A w' A'->C w A w' A')\/((∀w A w' A',Below w.heap.size w w'->C w A w' A')/\∀k,(listed.setIfInBounds j true).getD k true=false->k≠i->loud k=true->sw ops i k):=by
    rcases hC with hC|⟨hC1,hC2⟩
    ·exact .inl hC
    ·refine .inr ⟨hC1,fun k hk=>hC2 k ?_⟩
     by_cases hjk:j=k
     ·subst hjk;exact hjun
     ·rw[getD_set_ne true hjk]at hk;exact hk
   refine wpOp_mono (fun a' w' h3 =>?_) h2;obtain⟨k1,A',k2,k3,k4⟩:=h3;refine⟨k1,A',k2,ih (listed.setIfInBounds j true) a' w' A' (xc hU hj) hfree' hC' (ready_mono hr (Ne.symm hji)) k3 ?_⟩;rw[Array.setIfInBounds_comm _ _ hji];exact k4
end
def EN(cx:Cx)(st:St)(dst:Option Tmp)(sv:SV)(K:St->VC):VC:=
 match dst with
 |some d=>match aq d cx.N with
  |true=>K {st with env:=(d,sv) :: st.env}
  |false =>.ff
 |none=>K st
def eqB:Bool->Bool->Bool
 |true,b=>b
 |false,true=>false
 |false,false=>true
def po(st:St)(d:Nat)(b:Bool):St:={st with env:=(d,.s (.one (.lit b))) :: st.env}
def BK(opl:List Oper)(st:St)(o:Oper)(exec skip:St->VC):VC:=
 match o.guard with
 |none=>exec st
 |some (j,want)=>match opl[j]? with
  |some oj=>match oj.dst with
   |some d=>match look st.env d with
    |some (.s (.one (.lit b)))=>match eqB b want with
     |true=>exec st
     |false=>skip st
    |some (.s (.one (.d .bool g)))=>match want with
     |true =>.ite g (exec (po st d true)) (skip (po st d false))
     |false =>.ite g (skip (po st d true)) (exec (po st d false))
    |some (.oJ [])=>skip st
    |_ =>.ff
   |none =>.ff
  |none =>.ff
def oO(cx:Cx)(opl:List Oper)(st:St)(o:Oper)(K:St->VC):VC:=
 BK opl st o (fun st=>zS cx st o fun sv st'=>EN cx st' o.dst sv K) (fun st=>EN cx st o.dst (.oJ []) K)
def J4(cx:Cx)(opl:List Oper):List Oper->St->(St->VC)->VC
 |[],st,K=>K st
 |o :: r,st,K=>oO cx opl st o fun st'=>J4 cx opl r st' K
def l6(cx:Cx)(opl:List Oper)(j:Nat):Bool:=
 match opl[j]? with
 |some o=>ab (kindOf cx o) 3
 |none=>false
def wo(cx:Cx)(opl:List Oper)(ms:List Nat)(listed:Array Bool)(i:Nat):Bool:=
 match opl[i]? with
 |some o=>match kindOf cx o with
  |0=>true
  |1=>(bz opl.length).all fun j=>ab j i || listed.getD j true || !(l6 cx opl j) || (ms.getD j 0).testBit i
  |_=>false
 |none=>false
def xe(cx:Cx)(ops:Array Oper)(st:St)(i:Nat):Bool:=
 match ops[i]? with
 |some o=>match o.op,o.guard with
  |.load _ x,none=>match eZ st.env x with
   |.ql _ _=>true
   |_=>false
  |_,_=>false
 |none=>false
def J5:List Nat->(Nat->VC)->VC
 |[],_ =>.leaf True
 |[i],f=>f i
 |i :: j :: r,f =>.both (f i) (J5 (j :: r) f)
def oC(cx:Cx)(ops:Array Oper)(ms:List Nat):Nat->Array Bool->St->(St->VC)->VC
 |0,listed,st,K=>match av .any ops listed with
  |[]=>K st
  |_ =>.ff
 |n+1,listed,st,K=>match av .any ops listed with
  |[]=>K st
  |r :: rs=>match(r :: rs).find? (fun i=>wo cx ops.toList ms listed i || xe cx ops st i)with
   |some i=>match ops[i]? with
    |some o=>oO cx ops.toList st o fun st'=>oC cx ops ms n (listed.setIfInBounds i true) st' K
    |none =>.ff
   |none=>J5 (r :: rs) fun i=>match ops[i]? with
    |some o=>oO cx ops.toList st o fun st'=>oC cx ops ms n (listed.setIfInBounds i true) st' K
    |none =>.ff
def Du(o:Oper):Nat:=o.after.toList.foldl (fun s e=>match ao .any e with
 |true=>s ||| (1<<< e.on)
 |false=>s) 0
def Uk(am m i:Nat):Bool:=!(m.testBit i)&&ab (am&&&m) am
def pP:List Nat->Nat->Nat->List Nat
 |[],_,_=>[]
 |am :: r,m,i=>match Uk am m i with
  |true=>i :: pP r m (i+1)
  |false=>pP r m (i+1)
def xf(m i:Nat):List Bool->List Nat->Nat->Bool
 |l :: ls,a :: ms,j=>match l&&(!(ab j i)&&(!(m.testBit j)&&!(a.testBit i)))with
  |true=>false
  |false=>xf m i ls ms (j+1)
 |_,_,_=>true
def BL(ks:List Nat)(ls:List Bool)(ms:List Nat)(m i:Nat):Bool:=
 match ks.getD i 2 with
 |0=>true
 |1=>xf m i ls ms 0
 |_=>false
def anyM(cx:Cx)(ops:Array Oper)(am ks:List Nat)(ls:List Bool)(ms:List Nat):Nat->Nat->St->(St->VC)->VC
 |0,m,st,K=>match pP am m 0 with
  |[]=>K st
  |_ =>.ff
 |n+1,m,st,K=>match pP am m 0 with
  |[]=>K st
  |r :: rs=>match(r :: rs).find? (fun i=>BL ks ls ms m i || xe cx ops st i)with
   |some i=>match ops[i]? with
    |some o=>oO cx ops.toList st o fun st'=>anyM cx ops am ks ls ms n (m ||| (1<<< i)) st' K
    |none =>.ff
   |none=>J5 (r :: rs) fun i=>match ops[i]? with
    |some o=>oO cx ops.toList st o fun st'=>anyM cx ops am ks ls ms n (m ||| (1<<< i)) st' K
    |none =>.ff
def acF(cx:Cx)(ops:Array Oper)(st:St)(K:St->VC):VC:=
 anyM cx ops (ops.toList.map Du) (ops.toList.map (kindOf cx)) (ops.toList.map fun o=>ab (kindOf cx o) 3) (kn ops.toList) ops.size 0 st K
def GD(oj:Oper)(i:Nat):Bool:=oj.after.any fun e=>ao .any e&&ab e.on i
def xg(ops:Array Oper):Bool:=
 ee ops&&(bz ops.size).all fun i=>(bz ops.size).all fun j=>match ops[i]?,ops[j]? with
  |some oi,some oj=>ab j i || GD oj i || GD oi j || oi.apart ops oj
  |_,_=>true
section
variable{X:Ext}{P:Program}{cx:Cx}{Q:Exit->Act->World->Prop}
structure gX (cx:Cx) (S:bQ) (st:St) (a:Act):Prop where
 size:a.tmps.size=cx.N
 defers:a.defers=[]
 env:iu cx.eT S st.env a
def allM:Nat:=4000000
def pq(W:List Nat)(st st':St):Prop:=allM∉W->∀t,t∉W->∀v,look st'.env t=some v->look st.env t=some v
def ib(cx:Cx)(X:Ext)(O:aK)(K:St->VC)(W:List Nat)(st:St)(S:bQ):Act->World->Prop:=
 fun a' w'=>∃st' loc',(K st').holds/\Good cx.eT X (aC O st' loc' w')/\Tr S (aC O st' loc' w')/\gX cx (aC O st' loc' w') st' a'/\pq W st st'
def iu.tr{S S':bQ}{env:List (Nat×SV)}{a:Act}(h:iu cx.eT S env a)(t:Tr S S'):iu cx.eT S' env a:=fun i sv hi=>(h i sv hi).tr t
def gX.put{S S':bQ}{st st':St}{a:Act}{d:Nat}{v:Value}{sv:SV}(h:gX cx S st a)(t:Tr S S')(he:st'.env=(d,sv) :: st.env)(hd:d<cx.N)(hv:eL cx.eT S' sv v):gX cx S' st' (a.put (some d) v):=by
 refine⟨by simp[Act.put,h.size],h.defers,fun i sv' hi =>?_⟩;rw[he,cV]at hi;simp only[Act.put];by_cases e:d=i
 ·rw[if_pos e]at hi
  cases hi;subst e;rw[bc,Array.getElem?_setIfInBounds,if_pos rfl,if_pos (by rw[h.size];exact hd)];exact hv
 ·rw[if_neg e]at hi
  rw[bc,Array.getElem?_setIfInBounds,if_neg e,<-bc];exact(h.env i sv' hi).tr t
def pQ{O:aK}{st st0:St}{S:bQ}{loc:Nat->Loc}{w:World}{a:Act}{dst:Option Tmp}{sv:SV}{v:Value}{K:St->VC}{W:List Nat}(h:(EN cx st dst sv K).holds)
  (hA:gX cx S st0 a)(ht:Tr S (aC O st loc w))(he:st.env=st0.env)(hv:eL cx.eT (aC O st loc w) sv v)(g:Good cx.eT X (aC O st loc w))(hW:∀d,dst=some d->d∈W) :
  ib cx X O K W st0 S (a.put dst v) w:=by
 unfold EN at h;split at h
 ·rename_i d
  split at h
  ·rename_i hd
   refine⟨{st with env:=(d,sv) :: st.env},loc,h,g,ht,?_,fun _ t htW v hv =>?_⟩
   ·have:=hA.put (st':={st with env:=(d,sv) :: st.env}) ht (by rw[<-he]) (nR hd) hv
    exact⟨this.size,this.defers,this.env⟩
   ·have hv:look ((d,sv) :: st.env) t=some v:=hv
    rw[cV,if_neg (fun(e:d=t)=>htW (e▸hW d rfl)),he]at hv;exact hv
  ·exact h.elim
 ·refine⟨st,loc,h,g,ht,⟨hA.size,hA.defers,by rw[he];exact hA.env.tr ht⟩,fun _ t _ v hv=>by rw[he]at hv;exact hv⟩
def aba(a b:Bool):eqB a b=(a == b):=by cases a <;> cases b <;> rfl
def Ul{O:aK}{st:St}{loc:Nat->Loc}{w:World}{a:Act}{d:Nat}{b:Bool}(hA:gX cx (aC O st loc w) st a)(hv:a.tmps.getD d undef=.bool b) :
  gX cx (aC O (po st d b) loc w) (po st d b) a:=by
 refine⟨hA.size,hA.defers,fun i sv hi =>?_⟩;simp only[po,cV]at hi;by_cases e:d=i
 ·rw[if_pos e]at hi
  cases hi;subst e;rw[hv];rfl
 ·rw[if_neg e]at hi
  exact hA.env i sv hi
def KN{ops:Array Oper}{a:Act}{j d:Nat}{oj:Oper}{b:Bool}(hj:ops[j]?=some oj)(hd:oj.dst=some d)(hlt:d<a.tmps.size)(hv:a.tmps.getD d undef=.bool b):yielded ops a.tmps j=some b:=by
 have:a.tmps[d]?=some (.bool b):=by
  rw[Array.getElem?_eq_getElem hlt];rw[bc,Array.getElem?_eq_getElem hlt]at hv;simpa using hv
 simp[yielded,hj,hd,this]
def yO{O:aK}{st:St}{loc:Nat->Loc}{w:World}{a:Act}{ops:Array Oper}{o:Oper}{exec skip:St->VC}{W:List Nat}(hA:gX cx (aC O st loc w) st a)(g:Good cx.eT X (aC O st loc w))
  (hW:∀(j:Nat) (oj:Oper) (d:Nat),ops[j]?=some oj->oj.dst=some d->d∈W)
  (h:(BK ops.toList st o exec skip).holds) :
  ∃st',gX cx (aC O st' loc w) st' a/\Good cx.eT X (aC O st' loc w)/\aC O st' loc w=aC O st loc w/\pq W st st'/\
   ((au o (yielded ops a.tmps)=true/\(exec st').holds)\/(au o (yielded ops a.tmps)=false/\(skip st').holds)):=by
 unfold BK at h;split at h
 ·rename_i hg
  exact⟨st,hA,g,rfl,fun _ _ _ _ h=>h,.inl ⟨by simp[au,hg],h⟩⟩
 ·rename_i j want hg
  split at h
  ·rename_i oj hj
   have hj':ops[j]?=some oj:=by rw[<-Array.getElem?_toList];exact hj
   split at h
   ·rename_i d hd
    have key:∀b,a.tmps.getD d undef=.bool b->au o (yielded ops a.tmps)=(b == want):=by
     intro b hb;have hlt:d<a.tmps.size:=by
      rcases a8 d a.tmps.size with h'|h'
      ·exact h'
      ·rw[bc,Array.getElem?_eq_none h']at hb;cases hb
     simp[au,hg,KN hj' hd hlt hb]
    have lit:∀b,a.tmps.getD d undef=.bool b->gX cx (aC O (po st d b) loc w) (po st d b) a/\Good cx.eT X (aC O (po st d b) loc w)/\aC O (po st d b) loc w=aC O st loc w/\pq W st (po st d b):=
     fun b hb=>⟨Ul hA hb,g,rfl,fun _ t ht v hv=>by simp only[po,cV]at hv;rwa [if_neg (fun(e:d=t)=>ht (e▸hW j oj d hj' hd))]at hv⟩
    split at h
    ·rename_i b hl
     have hv:a.tmps.getD d undef=.bool b:=hA.env d _ hl;have hk:=key b hv;rw[<-aba]at hk;split at h
     ·rename_i he;exact⟨st,hA,g,rfl,fun _ _ _ _ h=>h,.inl ⟨by rw[hk,he],h⟩⟩
     ·rename_i he;exact⟨st,hA,g,rfl,fun _ _ _ _ h=>h,.inr ⟨by rw[hk,he],h⟩⟩
    ·rename_i b hl
     have hv:a.tmps.getD d undef=.bool b:=(fO (eT:=cx.eT) (S:=aC O st loc w) (b:=b)).1 (hA.env d _ hl);have hk:=key b hv;obtain⟨l1,l2,l3,l4⟩:=lit b hv;split at h
     ·cases b
      ·exact⟨_,l1,l2,l3,l4,.inr ⟨by rw[hk];rfl,h.2 rfl⟩⟩
      ·exact⟨_,l1,l2,l3,l4,.inl ⟨by rw[hk];rfl,h.1 rfl⟩⟩
     ·cases b
      ·exact⟨_,l1,l2,l3,l4,.inl ⟨by rw[hk];rfl,h.2 rfl⟩⟩
      ·exact⟨_,l1,l2,l3,l4,.inr ⟨by rw[hk];rfl,h.1 rfl⟩⟩
    ·rename_i hl
     obtain⟨vs,hv,hvs⟩:=hA.env d _ hl;cases hvs;have hy:yielded ops a.tmps j=none:=by
      rw[bc]at hv;simp only[yielded,hj',hd,Option.bind_some];cases ht:a.tmps[d]? with
      |none=>rfl
      |some x=>rw[ht]at hv;simp only[bq]at hv;subst hv;rfl
     exact⟨st,hA,g,rfl,fun _ _ _ _ h=>h,.inr ⟨by simp[au,hg,hy],h⟩⟩
    ·exact h.elim
   ·exact h.elim
  ·exact h.elim
def pq.trans{W:List Nat}{a b c:St}(h:pq W a b)(h':pq W b c):pq W a c:=fun hm t ht v hv=>h hm t ht v (h' hm t ht v hv)
def ib.mono{O:aK}{K:St->VC}{W:List Nat}{st st1:St}{S S1:bQ}{a:Act}{w:World}(h:ib cx X O K W st1 S1 a w)(ht:Tr S S1)(ha:pq W st st1):ib cx X O K W st S a w:=by
 obtain⟨st',loc',k1,k2,k3,k4,k5⟩:=h;exact⟨st',loc',k1,k2,ht.trans k3,k4,ha.trans k5⟩
def zV(hok:mW P cx X){O:aK}{st:St}{loc:Nat->Loc}{w:World}{a:Act}{ops:Array Oper}{o:Oper}{K:St->VC}{W:List Nat}(hA:gX cx (aC O st loc w) st a)(g:Good cx.eT X (aC O st loc w))(hO:fT O w)
  (hW:∀(j:Nat) (oj:Oper) (d:Nat),ops[j]?=some oj->oj.dst=some d->d∈W)(hWo:∀d,o.dst=some d->d∈W)(h:(oO cx ops.toList st o K).holds) :
  if au o (yielded ops a.tmps)then o.wp P a w (fun a' w'=>(ab (kindOf cx o) 3=false->Below w.heap.size w w')/\ib cx X O K W st (aC O st loc w) a' w') Q
  else ib cx X O K W st (aC O st loc w) (a.put o.dst undef) w:=by
 obtain⟨st',hA',g',hs,hag,hcase⟩:=yO hA g hW h;rcases hcase with⟨hw,h'⟩|⟨hw,h'⟩
 ·rw[if_pos hw]
  refine da ?_ (Yk hok g' hO hA'.env h');rintro a' w' ⟨v,sv,st2,loc2,rfl,k1,k2,k3,k4,k5,k6⟩;refine⟨fun hl=>k3 hl,?_⟩;exact(pQ k1 hA' k5 k2 k6 k4 hWo).mono (by rw[hs];exact Tr.refl _) hag
 ·rw[if_neg (by simp[hw])]
  exact(pQ (loc:=loc) (w:=w) h' hA' (Tr.refl _) rfl (show eL cx.eT _ (.oJ []) undef from⟨[],rfl,.nil⟩) g' hWo).mono (by rw[hs];exact Tr.refl _) hag
def Cp(hok:mW P cx X){O:aK}{ops:Array Oper}{W:List Nat}(hW:∀(j:Nat) (oj:Oper) (d:Nat),ops[j]?=some oj->oj.dst=some d->d∈W){K:St->VC}:∀(l:List Oper) {st:St} {loc:Nat->Loc} {w:World} {a:Act},(∀o∈l,∀d,o.dst=some d->d∈W)->
  gX cx (aC O st loc w) st a->Good cx.eT X (aC O st loc w)->fT O w->(J4 cx ops.toList l st K).holds->(∀st' loc' a' w',(K st').holds->Good cx.eT X (aC O st' loc' w')->Tr (aC O st loc w) (aC O st' loc' w')->gX cx (aC O st' loc' w') st' a'->pq W st st'->Q .normal a' w')->
  wpList P ops Q l a w:=by
 intro l;induction l with
 |nil=>intro st loc w a _ hA g _ h hq;exact hq st loc a w h g (Tr.refl _) hA fun _ _ _ _ h=>h
 |cons o l ih=>
  intro st loc w a hWl hA g hO h hq;have hs:=zV (Q:=Q) (P:=P) hok hA g hO hW (hWl o (by simp)) h;have next:∀a' w',ib cx X O (fun st'=>J4 cx ops.toList l st' K) W st (aC O st loc w) a' w'->wpList P ops Q l a' w':=by
   rintro a' w' ⟨st',loc',k1,k2,k3,k4,k5⟩;exact ih (fun o' ho'=>hWl o' (by simp[ho'])) k4 k2 (hO.tr k3.size) k1 fun st2 loc2 a2 w2 m1 m2 m3 m4 m5=>hq st2 loc2 a2 w2 m1 m2 (k3.trans m3) m4 (k5.trans m5)
  unfold wpList;split
  ·rename_i hw
   rw[if_pos hw]at hs;exact .inl (da (fun a' w' h'=>next a' w' h'.2) hs)
  ·rename_i hw
   rw[if_neg hw]at hs;exact next _ _ hs
def Um(hok:mW P cx X){O:aK}{st:St}{loc:Nat->Loc}{w:World}{a:Act}(g:Good cx.eT X (aC O st loc w))(hO:fT O w)(he:iu cx.eT (aC O st loc w) st.env a)
  {o:Oper}{K:SV->St->VC}(hk:kindOf cx o=0\/kindOf cx o=1)(h:(zS cx st o K).holds) :
  ∃v sv st' loc',(K sv st').holds/\st'.env=st.env/\Good cx.eT X (aC O st' loc' w)/\Tr (aC O st loc w) (aC O st' loc' w)/\eL cx.eT (aC O st' loc' w) sv v/\
   ∀w',(kindOf cx o=0\/Below w.heap.size w w')->(execOp a.eval o).run P w'=.ok (.value v) w':=by
 have same:∀{sv:SV} {v:Value},(K sv st).holds->eL cx.eT (aC O st loc w) sv v->(∀w',(kindOf cx o=0\/Below w.heap.size w w')->(execOp a.eval o).run P w'=.ok (.value v) w')->
   ∃v sv st' loc',(K sv st').holds/\st'.env=st.env/\Good cx.eT X (aC O st' loc' w)/\Tr (aC O st loc w) (aC O st' loc' w)/\eL cx.eT (aC O st' loc' w) sv v/\
   ∀w',(kindOf cx o=0\/Below w.heap.size w w')->(execOp a.eval o).run P w'=.ok (.value v) w':=
  fun h1 h2 h3=>⟨_,_,st,loc,h1,rfl,g,Tr.refl _,h2,h3⟩
 have pure:(Eu cx st o.op fun sv=>K sv st).holds->∃v sv st' loc',(K sv st').holds/\st'.env=st.env/\Good cx.eT X (aC O st' loc' w)/\Tr (aC O st loc w) (aC O st' loc' w)/\eL cx.eT (aC O st' loc' w) sv v/\
   ∀w',(kindOf cx o=0\/Below w.heap.size w w')->(execOp a.eval o).run P w'=.ok (.value v) w':=by
  intro h;obtain⟨sv,v,h1,h2,h3⟩:=zE (P:=P) hok.toTyOK g he h;exact same h1 h2 fun w' _=>h3 w'
 have mov:∀x ty,(∀w',(execOp a.eval o).run P w'=.ok (.value (a.eval x)) w')->(BG cx st x ty K).holds->∃v sv st' loc',(K sv st').holds/\st'.env=st.env/\Good cx.eT X (aC O st' loc' w)/\Tr (aC O st loc w) (aC O st' loc' w)/\eL cx.eT (aC O st' loc' w) sv v/\
   ∀w',(kindOf cx o=0\/Below w.heap.size w w')->(execOp a.eval o).run P w'=.ok (.value v) w':=by
  intro x ty hrun h;obtain⟨sv,st',loc',h1,h2,h3,h4,h5⟩:=Ck g hO he h;exact⟨_,sv,st',loc',h1,h2,h3,h4,h5,fun w' _=>hrun w'⟩
 have read:(qR cx st o.op fun sv=>K sv st).holds->∃v sv st' loc',(K sv st').holds/\st'.env=st.env/\Good cx.eT X (aC O st' loc' w)/\Tr (aC O st loc w) (aC O st' loc' w)/\eL cx.eT (aC O st' loc' w) sv v/\
   ∀w',(kindOf cx o=0\/Below w.heap.size w w')->(execOp a.eval o).run P w'=.ok (.value v) w':=by
  intro h;unfold qR at h;simp only at h;split at h
  ·rename_i t x i hop
   split at h
   ·rename_i n hn
    obtain⟨k,hk',_⟩:=pk hn (cA he i);obtain⟨c,u,h1,h2,h3⟩:=Hk (P:=P) hok.toTyOK g (k:=k) (cA he x) h;exact same h1 h2 fun w' _=>by simp[execOp,hop,hk',h3]
   ·exact h.elim
  ·rename_i t x f hop
   obtain⟨c,u,h1,h2,h3⟩:=Ci (P:=P) hok.toTyOK (cA he x) h;exact same h1 h2 fun w' _=>by simp[execOp,hop,h3]
  ·rename_i t x hop
   obtain⟨c,u,h1,h2,h3⟩:=w4 (P:=P) hok.toTyOK g (cA he x) h;refine same h1 h2 fun w' hb =>?_
   have hb:Below w.heap.size w w':=by
    rcases hb with hb|hb
    ·simp[kindOf,hop]at hb
    ·exact hb
   simp[execOp,hop,h3 w' hb]
  ·rename_i t x lo hi hop
   obtain⟨c,u,h1,h2,h3⟩:=Cj (P:=P) hok.toTyOK g he (cA he x) h;exact same h1 h2 fun w' _=>by simp[execOp,hop,h3]
  ·exact pure h
 unfold zS at h;split at h
 ·rename_i hm;rw[xb hm]at hk;omega
 unfold EL at h;split at h
 ·rename_i s t x hop
  unfold Ds at h;split at h
  ·rename_i hs ht;simp[kindOf,hop,ht]at hk
  ·rename_i hs ht;simp[kindOf,hop,ht]at hk
  ·exact read h
  ·exact h.elim
 ·rename_i x hop
  exact mov x _ (fun w'=>by simp[execOp,hop]) h
 ·rename_i x hop
  unfold Ri at h;split at h
  ·obtain⟨sv,st',loc',h1,h2,h3,h4,h5⟩:=zR g hO he h
   exact⟨_,sv,st',loc',h1,h2,h3,h4,h5,fun w' _=>by simp[execOp,hop]⟩
  ·exact mov x _ (fun w'=>by simp[execOp,hop]) h
 ·rename_i t hop;simp[kindOf,hop]at hk
 ·rename_i t x hop;simp[kindOf,hop]at hk
 ·rename_i t ps hop
  obtain⟨sv,v,h1,h2,h3⟩:=yN hok.toTyOK g he h;exact same h1 h2 fun w' _=>by have:=h3 w';simp only[execOp,hop,af,ak];rw[this];rfl
 ·rename_i t n ps hop;simp[kindOf,hop]at hk
 ·rename_i t l c hop;simp[kindOf,hop]at hk
 ·rename_i t x v hop;simp[kindOf,hop]at hk
 ·rename_i fn first caps hop
  split at h
  ·rename_i f ns hfi hcn
   obtain⟨k1,k2⟩:=zU he hcn;have hfi':first= #[]:=aj.1 hfi
   have hca:caps.map a.eval=(ns.map fun n=>(loc n).v).toArray:=by
    apply aj.1;rw[dy,k1]
   refine same (v:=.func (.func f) #[] (ns.map fun n=>(loc n).v).toArray) h ⟨rfl,k2⟩ fun w' _ =>?_
   simp[execOp,hop,dz,hfi',hca]
  ·exact h.elim
 ·rename_i c hop
  unfold Dr at h;split at h
  ·rename_i f hcal
   exfalso;have:kindOf cx o=2\/kindOf cx o=3:=by
    unfold kindOf;simp only[hop,hcal];split
    ·rename_i heq;cases heq
    ·rename_i heq;cases heq
    ·rename_i heq;cases heq
    ·split
     ·exact .inl rfl
     ·exact .inr rfl
    ·split
     ·exact .inl rfl
     ·exact .inr rfl
    ·exact .inr rfl
   omega
  ·rename_i hcal;simp[kindOf,hop,hcal]at hk
  ·rename_i hcal;simp[kindOf,hop,hcal]at hk
  ·rename_i hcal
   split at h
   ·rename_i x y harg
    have h1:c.args= #[x,y]:=aj.1 harg;obtain⟨c',v,k1,k2,k3⟩:=xa (P:=P) (cA he x) (cA he y) h;refine same (v:=v) k1 k2 fun w' _ =>?_
    have k3:=k3 w';simp only[if_true]at k3;simp[execOp,hop,resolve,hcal,h1,invoke,builtin,dT,k3]
   ·exact h.elim
  ·rename_i hcal
   split at h
   ·rename_i x y harg
    have h1:c.args= #[x,y]:=aj.1 harg;obtain⟨c',v,k1,k2,k3⟩:=xa (P:=P) (cA he x) (cA he y) h;refine same (v:=v) k1 k2 fun w' _ =>?_
    have k3:=k3 w';simp only[a7,if_false]at k3;simp[execOp,hop,resolve,hcal,h1,invoke,builtin,ec,k3]
   ·exact h.elim
  ·exact read h
 ·exact read h
def Rl{ops:Array Oper}{st:St}{i:Nat}{o:Oper}(ho:ops[i]?=some o)(h:xe cx ops st i=true):∃t x u y,o.op=.load t x/\o.guard=none/\eZ st.env x=.ql u y:=by
 unfold xe at h;rw[ho]at h;simp only at h;split at h
 ·rename_i t x hop hg
  split at h
  ·rename_i u y hev;exact⟨t,x,u,y,hop,hg,hev⟩
  ·cases h
 ·cases h
def Un{ops:Array Oper}{loud:Nat->Bool}{n:Nat}{listed:Array Bool}{a:Act}{w:World}{A A':aK}(h:gH w A w A')(hw:wpS P ops loud Q n listed a w A'):wpS P ops loud Q n listed a w A:=by
 cases n with
 |zero=>exact hw
 |succ n=>exact⟨hw.1,fun i hi=>wpOp_mono (fun a' w' h'=>⟨h'.1,let⟨A2,k1,k2⟩:=h'.2;⟨A2,h.trans k1,k2⟩⟩) (hw.2 i hi)⟩
def abb(hok:mW P cx X){O:aK}{st:St}{loc:Nat->Loc}{w:World}{a:Act}(g:Good cx.eT X (aC O st loc w))(hO:fT O w)(he:iu cx.eT (aC O st loc w) st.env a)
  {o:Oper}{K:SV->St->VC}{t:TypeId}{x:Operand}{u:Ty}{y:D u}(hop:o.op=.load t x)(hev:eZ st.env x=.ql u y)(h:(zS cx st o K).holds) :
  ∃v sv,(K sv st).holds/\eL cx.eT (aC O st loc w) sv v/\∀w' A',gH w (aC O st loc w).A w' A'->(execOp a.eval o).run P w'=.ok (.value v) w':=by
 have hx:=cA he x;rw[hev]at hx;unfold zS at h;split at h
 ·rename_i hm;have:=xb hm;simp[kindOf,hop]at this
 unfold EL at h;rw[hop]at h;simp only at h;unfold qR at h;simp only at h;rw[hev]at h;unfold zG at h;split at h
 ·rename_i ty ht
  obtain⟨m,i,d,hf,hs⟩:=gF hok.toTyOK ht;simp only at h;split at h
  ·rename_i hb
   obtain⟨b,o',us,hvx,hr,hrow⟩:=hx;have hr:=oK hb y hr;obtain⟨v,h1,h2⟩:=iP hf hs hr.length w (fun j v hj=>(hrow j v hj).1);refine⟨v,_,h,pO hr h2,fun w' A' hd =>?_⟩;obtain⟨v',h3,h4⟩:=iP (P:=P) hf hs hr.length w' (fun j v hj=>(hd _ _ _ (hrow j v hj).2 (hrow j v hj).1).1);have e:v'=v:=by
    split at h2
    ·rename_i ho;rw[if_pos ho]at h4;rw[h2]at h4;exact(List.cons.inj h4).1.symm
    ·rename_i ho;rw[if_neg ho]at h4;rw[h2,h4]
   have:=h3 w' (Below.refl _ _);rw[e]at this;simp[execOp,hop,hvx,this]
  ·exact h.elim
 ·exact h.elim
def JQ{ops:Array Oper}(h:xg ops=true):ee ops=true/\∀(i j:Nat) (oi oj:Oper),ops[i]?=some oi->ops[j]?=some oj->j≠i->GD oj i=false->GD oi j=false->oi.apart ops oj=true:=by
 simp only[xg,ae,cf,ef]at h;refine⟨h.1,fun i j oi oj hi hj hne h1 h2 =>?_⟩;have:=h.2 i (Array.getElem?_eq_some_iff.1 hi).1 j (Array.getElem?_eq_some_iff.1 hj).1;rw[hi,hj]at this;simp only[c7,h1,h2,a7,or_false]at this;rcases this with this|this
 ·exact absurd (ah this) hne
 ·exact this
def EO{oj:Oper}{i:Nat}(h:∀e∈oj.after,ao .any e=true->e.on≠i):GD oj i=false:=by
 cases hd:GD oj i
 ·rfl
 ·obtain⟨e,he,hb⟩:=Array.any_eq_true'.1 hd
  simp only[ae]at hb;exact absurd (ah hb.2) (h e he hb.1)
def Uo{l:List Nat}{f:Nat->VC}(h:(J5 l f).holds):∀i∈l,(f i).holds:=by
 induction l with
 |nil=>simp
 |cons i l ih=>
  cases l with
  |nil=>intro j hj;simp at hj;subst hj;exact h
  |cons j r=>
   intro k hk;rcases ag.1 hk with rfl|hk
   ·exact h.1
   ·exact ih h.2 k hk
def Cq(hok:mW P cx X){O:aK}{ops:Array Oper}{W:List Nat}(hW:∀(j:Nat) (oj:Oper) (d:Nat),ops[j]?=some oj->oj.dst=some d->d∈W)(hreg:xg ops=true){K:St->VC}
  (hQp:∀c a w,¬Q (.panic c) a w):∀(n:Nat) (listed:Array Bool) {st:St} {loc:Nat->Loc} {w:World} {a:Act},wm ops listed->
  gX cx (aC O st loc w) st a->Good cx.eT X (aC O st loc w)->fT O w->(oC cx ops (kn ops.toList) n listed st K).holds->
  (∀st' loc' a' w',(K st').holds->Good cx.eT X (aC O st' loc' w')->Tr (aC O st loc w) (aC O st' loc' w')->gX cx (aC O st' loc' w') st' a'->pq W st st'->Q .normal a' w')->
  wpS P ops (l6 cx ops.toList) Q n listed a w (aC O st loc w).A:=by
 intro n;induction n with
 |zero=>
  intro listed st loc w a _ hA g _ h hq;simp only[oC]at h;split at h
  ·rename_i hr;exact⟨hr,hq st loc a w h g (Tr.refl _) hA fun _ _ _ _ h=>h⟩
  ·exact h.elim
 |succ n ih=>
  intro listed st loc w a hU hA g hO h hq;simp only[oC]at h;split at h
  ·rename_i hr
   exact⟨fun _=>hq st loc a w h g (Tr.refl _) hA fun _ _ _ _ h=>h,by rw[hr];simp⟩
  ·rename_i r rs hr
   have one:∀i∈av .any ops listed,(match ops[i]? with|some o=>oO cx ops.toList st o fun st'=>oC cx ops (kn ops.toList) n (listed.setIfInBounds i true) st' K|none=>VC.ff).holds->
     wpOp P ops Q i (fun a' w'=>(l6 cx ops.toList i=false->Below w.heap.size w w')/\∃A',gH w (aC O st loc w).A w' A'/\wpS P ops (l6 cx ops.toList) Q n (listed.setIfInBounds i true) a' w' A') a w:=by
    intro i hi h;split at h
    ·rename_i o ho
     have hs:=zV (Q:=Q) (P:=P) hok hA g hO hW (fun d hd=>hW i o d ho hd) h;have hl:l6 cx ops.toList i=ab (kindOf cx o) 3:=by
      unfold l6;rw[Array.getElem?_toList,ho]
     have next:∀a' w',ib cx X O (fun st'=>oC cx ops (kn ops.toList) n (listed.setIfInBounds i true) st' K) W st (aC O st loc w) a' w'->∃A',gH w (aC O st loc w).A w' A'/\wpS P ops (l6 cx ops.toList) Q n (listed.setIfInBounds i true) a' w' A':=by
      rintro a' w' ⟨st',loc',k1,k2,k3,k4,k5⟩;exact⟨_,k3.cell,ih _ (xc hU hi) k4 k2 (hO.tr k3.size) k1 fun st2 loc2 a2 w2 m1 m2 m3 m4 m5=>hq st2 loc2 a2 w2 m1 m2 (k3.trans m3) m4 (k5.trans m5)⟩
     unfold wpOp;simp only[ho];split
     ·rename_i hw
      rw[if_pos hw]at hs;exact .inl (da (fun a' w' h'=>⟨fun e=>h'.1 (by rw[<-hl];exact e),next a' w' h'.2⟩) hs)
     ·rename_i hw
      rw[if_neg hw]at hs;exact⟨fun _=>Below.refl _ _,next _ _ hs⟩
    ·exact h.elim
   split at h
   ·rename_i i hf
    have hmem:i∈av .any ops listed:=by rw[hr];exact List.mem_of_find?_eq_some hf
    have hst:=List.find?_some hf;split at h
    ·rename_i o ho
     have hol:ops.toList[i]?=some o:=by rw[Array.getElem?_toList];exact ho
     obtain⟨hsel,hap⟩:=JQ hreg;have hfree:∀j oj,ops[j]?=some oj->j≠i->listed.getD j true=false->(∀e∈oj.after,ao .any e=true->e.on≠i)->o.apart ops oj=true:=by
      intro j oj hj hji hun hno;refine hap i j o oj ho hj hji (EO hno) (EO fun e he hb heq =>?_);obtain⟨_,o',ho',hall⟩:=mem_ready.1 hmem;rw[ho]at ho';cases ho';have:=hall e he hb;rw[heq]at this;rcases a8 j listed.size with h'|h'
      ·simp[h']at hun this;rw[hun]at this;cases this
      ·simp[Array.getElem?_eq_none h']at this
     have fin:∀{C:Dt} (hCr:∀w A,C w A w A) (hCt:∀a A b B c D,C a A b B->C b B c D->C a A c D)
       (hCC:(∀w A w' A',gH w A w' A'->C w A w' A')\/((∀w A w' A',Below w.heap.size w w'->C w A w' A')/\∀j,listed.getD j true=false->j≠i->l6 cx ops.toList j=true->sw ops i j))
       {v:Value},kA P ops C o v a w (aC O st loc w).A->ib cx X O (fun st'=>oC cx ops (kn ops.toList) n (listed.setIfInBounds i true) st' K) W st (aC O st loc w) (a.put o.dst v) w->wpS P ops (l6 cx ops.toList) Q (n+1) listed a w (aC O st loc w).A:=by
      intro C hCr hCt hCC v hy ⟨st',loc',k1,k2,k3,k4,k5⟩;refine Uj hCr hCt ho (fun j o' cs b hj=>Region.noSelect_spec hsel j o' cs b hj) (fun c a w h=>(hQp _ _ _ h).elim) n listed a w _ hU hfree hCC hmem hy ?_;exact Un k3.cell (ih _ (xc hU hmem) k4 k2 (hO.tr k3.size) k1 fun st2 loc2 a2 w2 m1 m2 m3 m4 m5=>hq st2 loc2 a2 w2 m1 m2 (k3.trans m3) m4 (k5.trans m5))
     cases hd:xe cx ops st i with
     |true=>
      obtain⟨t,x,u,y,hop,hg,hev⟩:=Rl ho hd;have h':(zS cx st o fun sv st'=>EN cx st' o.dst sv fun st'=>oC cx ops (kn ops.toList) n (listed.setIfInBounds i true) st' K).holds:=by
       unfold oO BK at h;rw[hg]at h;exact h
      obtain⟨v,sv,m1,m2,m3⟩:=abb hok g hO hA.env hop hev h';have hw:au o (yielded ops a.tmps)=true:=by unfold au;rw[hg]
      refine fin (C:=gH) gH.refl (fun _ _ _ _ _ _=>gH.trans) (.inl fun _ _ _ _ h=>h) (v:=v) (.inl ⟨hw,fun w' A' hc=>m3 w' A' hc⟩) ?_;exact(pQ m1 hA (Tr.refl _) rfl m2 g (fun d hd=>hW i o d ho hd))
     |false=>
      have hkind:kindOf cx o=0\/(kindOf cx o=1/\∀j,j<ops.size->j≠i->listed.getD j true=false->l6 cx ops.toList j=true->sw ops i j):=by
       rw[hd,Bool.or_false]at hst;simp only[wo,hol]at hst;split at hst
       ·rename_i hk;exact .inl hk
       ·rename_i hk
        refine .inr ⟨hk,fun j hj hji hun hl =>?_⟩;rw[cf]at hst;have:=hst j (by rw[ef];simpa using hj);simp only[c7,hun,hl,cr,a7,or_false]at this;rcases this with this|this
        ·exact absurd (ah this) hji
        ·exact Uh this
       ·cases hst
      let C:Dt:=fun w _ w' _=>kindOf cx o=0\/Below w.heap.size w w'
      have hCr:∀w A,C w A w A:=fun w A =>.inr (Below.refl _ _)
      have hCt:∀a A b B c D,C a A b B->C b B c D->C a A c D:=by
       intro a A b B c D h1 h2;rcases h1 with h1|h1
       ·exact .inl h1
       ·rcases h2 with h2|h2
        ·exact .inl h2
        ·exact .inr (h1.trans (h2.mono h1.size))
      have hCC:(∀w A w' A',gH w A w' A'->C w A w' A')\/((∀w A w' A',Below w.heap.size w w'->C w A w' A')/\∀j,listed.getD j true=false->j≠i->l6 cx ops.toList j=true->sw ops i j):=by
       rcases hkind with hk|⟨hk,hanc⟩
       ·exact .inl fun _ _ _ _ _ =>.inl hk
       ·refine .inr ⟨fun _ _ _ _ hb =>.inr hb,fun j hun hji hl=>hanc j ?_ hji hun hl⟩
        rcases a8 j ops.size with hh|hh
        ·exact hh
        ·unfold l6 at hl
         rw[Array.getElem?_toList,Array.getElem?_eq_none hh]at hl;cases hl
      unfold oO at h;obtain⟨st1,hA1,g1,hs1,hag1,hcase⟩:=yO hA g hW h;rcases hcase with⟨hw,h'⟩|⟨hw,h'⟩
      ·obtain⟨v,sv,st2,loc2,m1,m2,m3,m4,m5,m6⟩:=Um hok g1 hO hA1.env (hkind.imp id (·.1)) h'
       refine fin hCr hCt hCC (v:=v) (.inl ⟨hw,fun w' _ hc=>m6 w' hc⟩) ?_;exact(pQ m1 hA1 m4 m2 m5 m3 (fun d hd=>hW i o d ho hd)).mono (by rw[hs1];exact Tr.refl _) hag1
      ·refine fin hCr hCt hCC (v:=undef) (.inr ⟨hw,rfl⟩) ?_
       exact(pQ (loc:=loc) (w:=w) h' hA1 (Tr.refl _) rfl (show eL cx.eT _ (.oJ []) undef from⟨[],rfl,.nil⟩) g1 (fun d hd=>hW i o d ho hd)).mono (by rw[hs1];exact Tr.refl _) hag1
    ·exact h.elim
   ·have hall:=Uo h
    refine⟨fun e=>(by rw[hr]at e;cases e),fun i hi=>one i hi ?_⟩;exact hall i (by rw[<-hr];exact hi)
end
structure zW (ops:Array Oper) (m:Nat) (listed:Array Bool):Prop where
 size:listed.size=ops.size
 bits:∀k,m.testBit k=listed.getD k false
def zW.out{ops:Array Oper}{m:Nat}{listed:Array Bool}(h:zW ops m listed){i:Nat}(hi:i<ops.size):listed.getD i true=m.testBit i:=by
 rw[h.bits];simp[h.size,hi]
def zW.set{ops:Array Oper}{m:Nat}{listed:Array Bool}(h:zW ops m listed){i:Nat}(hi:i<ops.size):zW ops (m ||| (1<<< i)) (listed.setIfInBounds i true):=by
 refine⟨by simp[h.size],fun k =>?_⟩;rw[cd,h.bits,c6,cb];by_cases e:i=k
 ·subst e;simp[h.size,hi]
 ·simp[e,Array.getElem?_setIfInBounds]
def abc(a b m:Nat):(ab ((a ||| b)&&&m) (a ||| b))=(ab (a&&&m) a&&ab (b&&&m) b):=by
 rw[bm,ae,cg,cg,cg];constructor
 ·intro h
  have hb:∀k,(a.testBit k || b.testBit k)=true->m.testBit k=true:=fun k hk=>by
   have:=congrArg (fun x=>x.testBit k) h;simp only[ch,cd]at this;rw[hk]at this;simpa using this
  constructor <;> apply eg <;> intro k <;> rw[ch]
  ·cases ha:a.testBit k with
   |false=>rfl
   |true=>rw[hb k (by rw[ha];rfl)];rfl
  ·cases ha:b.testBit k with
   |false=>rfl
   |true=>rw[hb k (by rw[ha];simp)];rfl
 ·rintro⟨h1,h2⟩
  rw[Nat.and_or_distrib_right,h1,h2]
def acG(k m:Nat):ab ((1<<< k)&&&m) (1<<< k)=m.testBit k:=by
 rw[bm,cg,c6];constructor
 ·intro h
  have:=congrArg (fun x=>x.testBit k) h;simpa[ch,cb]using this
 ·intro h
  apply eg;intro j;rw[ch,cb];by_cases e:k=j
  ·subst e;simp[h]
  ·simp[e]
def Up(o:Oper)(m:Nat):ab (Du o&&&m) (Du o)=o.after.toList.all fun e =>!ao .any e || m.testBit e.on:=by
 have key:∀(l:List Edge) (s:Nat),
   ab (l.foldl (fun s e=>match ao .any e with|true=>s ||| (1<<< e.on)|false=>s) s&&&m) (l.foldl (fun s e=>match ao .any e with|true=>s ||| (1<<< e.on)|false=>s) s)=
    (ab (s&&&m) s&&l.all fun e =>!ao .any e || m.testBit e.on):=by
  intro l;induction l with
  |nil=>intro s;simp
  |cons e l ih=>
   intro s;rw[cu,ih,db];cases ao .any e with
   |true=>simp only[abc,acG,cr,Bool.false_or,Bool.and_assoc]
   |false=>simp
 have:=key o.after.toList 0;simpa[Du]using this
def Ht{m:Nat}{p:Nat->Bool}:∀(l:List Nat) (i:Nat),(∀k am,l[k]?=some am->Uk am m (i+k)=p (i+k))->pP l m i=(List.range' i l.length).filter p
 |[],_,_=>rfl
 |am :: r,i,h=>by
  have h0:Uk am m i=p i:=by simpa using h 0 am rfl
  have ih:=Ht (m:=m) (p:=p) r (i+1) fun k am' hk=>by
   have:=h (k+1) am' (by simpa using hk)
   rwa [show i+(k+1)=i+1+k by omega]at this
  have e:pP (am :: r) m i=match Uk am m i with|true=>i :: pP r m (i+1)|false=>pP r m (i+1):=by rw[pP]
  rw[eh,ei,cq,<-ih,e,h0];cases p i <;> rfl
def KO{m i:Nat}{p:Nat->Bool}:∀(ls:List Bool) (aem:List Nat) (j:Nat),ls.length=aem.length->
  (∀k l a,ls[k]?=some l->aem[k]?=some a->(!(l&&(!(ab (j+k) i)&&(!(m.testBit (j+k))&&!(a.testBit i)))))=p (j+k))->xf m i ls aem j=(List.range' j ls.length).all p
 |[],[],_,_,_=>rfl
 |[],_ :: _,_,h,_=>by simp at h
 |_ :: _,[],_,h,_=>by simp at h
 |l :: ls,a :: aem,j,hl,h=>by
  have h0:=h 0 l a rfl rfl;rw[cy]at h0;have ih:=KO (m:=m) (i:=i) (p:=p) ls aem (j+1) (by simpa using hl) fun k l' a' hk ha=>by
   have:=h (k+1) l' a' (by simpa using hk) (by simpa using ha)
   rwa [show j+(k+1)=j+1+k by omega]at this
  have e:xf m i (l :: ls) (a :: aem) j=match l&&(!(ab j i)&&(!(m.testBit j)&&!(a.testBit i)))with|true=>false|false=>xf m i ls aem (j+1):=by rw[xf]
  rw[eh,ei,db,<-ih,<-h0,e];cases(l&&(!(ab j i)&&(!(m.testBit j)&&!(a.testBit i)))) <;> rfl
def Cr:∀(r:List Oper) (ms:List Nat),(rE r ms).length=ms.length+r.length
 |[],ms=>by simp[rE]
 |o :: r,ms=>by rw[rE,Cr r];simp;omega
def Uq(l:List Oper):(kn l).length=l.length:=by unfold kn;rw[Cr];simp
def KP{ops:Array Oper}{m:Nat}{listed:Array Bool}(h:zW ops m listed):pP (ops.toList.map Du) m 0=av .any ops listed:=by
 unfold av;rw[Ht (p:=fun i =>!listed.getD i true&&((ops[i]?).map (·.after.all fun e =>!ao .any e || listed.getD e.on false)).getD false),b9,ej]
 ·rfl
 ·intro k am hk
  rw[ay];rw[List.getElem?_map,Array.getElem?_toList]at hk;cases ho:ops[k]? with
  |none=>rw[ho]at hk;cases hk
  |some o=>
   rw[ho]at hk;simp only[bp,dc]at hk;have hlt:k<ops.size:=(Array.getElem?_eq_some_iff.1 ho).1;unfold Uk;rw[<-hk,Up,h.out hlt];simp only[bp,bq];congr 1;rw[<-Array.all_toList];congr 1
   funext e
   rw[h.bits]
def Ur{cx:Cx}{ops:Array Oper}{m:Nat}{listed:Array Bool}(h:zW ops m listed)(i:Nat) :
  BL (ops.toList.map (kindOf cx)) (ops.toList.map fun o=>ab (kindOf cx o) 3) (kn ops.toList) m i=wo cx ops.toList (kn ops.toList) listed i:=by
 unfold BL wo;rw[List.getD_eq_getElem?_getD,List.getElem?_map];cases ho:ops.toList[i]? with
 |none=>rfl
 |some o=>
  simp only[bp,bq];have hfree:xf m i (ops.toList.map fun o=>ab (kindOf cx o) 3) (kn ops.toList) 0=(bz ops.toList.length).all fun j=>ab j i || listed.getD j true || !(l6 cx ops.toList j) || ((kn ops.toList).getD j 0).testBit i:=by
   rw[KO (p:=fun j=>ab j i || listed.getD j true || !(l6 cx ops.toList j) || ((kn ops.toList).getD j 0).testBit i),b9,ej]
   ·rw[b9,Uq]
   ·intro k l a hk ha
    rw[ay];rw[List.getElem?_map]at hk;cases hoo:ops.toList[k]? with
    |none=>rw[hoo]at hk;cases hk
    |some o'=>
     rw[hoo]at hk;simp only[bp,dc]at hk;have hlt:k<ops.size:=by rw[Array.getElem?_toList]at hoo;exact(Array.getElem?_eq_some_iff.1 hoo).1
     have hm:(kn ops.toList).getD k 0=a:=by rw[List.getD_eq_getElem?_getD,ha];rfl
     have hl:l6 cx ops.toList k=l:=by unfold l6;rw[hoo];exact hk
     rw[hm,hl,h.out hlt];cases l <;> cases ab k i <;> cases m.testBit k <;> cases a.testBit i <;> rfl
  split
  ·rfl
  ·exact hfree
  ·rfl
def abd{cx:Cx}{ops:Array Oper}{K:St->VC}:∀(n m:Nat) (listed:Array Bool) (st:St),zW ops m listed->
  anyM cx ops (ops.toList.map Du) (ops.toList.map (kindOf cx)) (ops.toList.map fun o=>ab (kindOf cx o) 3) (kn ops.toList) n m st K=oC cx ops (kn ops.toList) n listed st K:=by
 intro n;induction n with
 |zero=>intro m listed st h;unfold anyM oC;rw[KP h]
 |succ n ih=>
  intro m listed st h;unfold anyM oC;rw[KP h];have hst:(fun i=>BL (ops.toList.map (kindOf cx)) (ops.toList.map fun o=>ab (kindOf cx o) 3) (kn ops.toList) m i || xe cx ops st i)=fun i=>wo cx ops.toList (kn ops.toList) listed i || xe cx ops st i:=funext fun i=>by rw[Ur h]
  rw[hst];have hone:∀i,(match ops[i]? with
    |some o=>oO cx ops.toList st o fun st'=>anyM cx ops (ops.toList.map Du) (ops.toList.map (kindOf cx)) (ops.toList.map fun o=>ab (kindOf cx o) 3) (kn ops.toList) n (m ||| (1<<< i)) st' K
    |none=>VC.ff)=(match ops[i]? with
    |some o=>oO cx ops.toList st o fun st'=>oC cx ops (kn ops.toList) n (listed.setIfInBounds i true) st' K
    |none=>VC.ff):=by
   intro i;cases ho:ops[i]? with
   |none=>rfl
   |some o=>
    have hlt:i<ops.size:=(Array.getElem?_eq_some_iff.1 ho).1;simp only;congr 1
    funext st'
    exact ih _ _ st' (h.set hlt)
  split
  ·rfl
  ·split
   ·rename_i i hf
    exact hone i
   ·congr 1
    funext i
    exact hone i
def PN{cx:Cx}{ops:Array Oper}{st:St}{K:St->VC}:acF cx ops st K=oC cx ops (kn ops.toList) ops.size (ek ops.size false) st K:=
 abd _ _ _ _ ⟨by simp,fun k=>by simp[Array.getElem?_replicate];split <;> rfl⟩
def qV(r:Nat->Nat):C->C
 |.app t xs n =>.app t xs (r n)
 |.bC n =>.bC (r n)
 |.qK n t lo len =>.qK (r n) t lo len
 |.qk n =>.qk (r n)
 |.gA n =>.gA (r n)
 |.xd n p =>.xd (r n) p
 |.ref n o =>.ref (r n) o
 |.tH n =>.tH (r n)
 |.nx n t i o =>.nx (r n) t i o
 |.fn f caps =>.fn f (caps.map r)
 |c=>c
def xh(r:Nat->Nat):List C->List C
 |[]=>[]
 |c :: cs=>qV r c :: xh r cs
def wq(r:Nat->Nat):dC->dC
 |.one c =>.one (qV r c)
 |.agg cs =>.agg (xh r cs)
def wu(r:Nat->Nat):List dC->List dC
 |[]=>[]
 |c :: cs=>wq r c :: wu r cs
def BM(r:Nat->Nat):SV->SV
 |.s x =>.s (wq r x)
 |.oJ xs =>.oJ (wu r xs)
def lB(r:Nat->Nat):OC->OC
 |.cells T cs =>.cells T (xh r cs)
 |.iter cs seen cl =>.iter (xh r cs) seen cl
 |oc=>oc
def wv(r:Nat->Nat):List (Nat×SV)->List (Nat×SV)
 |[]=>[]
 |(t,v) :: l=>(t,BM r v) :: wv r l
def rF(r:Nat->Nat):List (Nat×OC)->List (Nat×OC)
 |[]=>[]
 |(n,oc) :: l=>(r n,lB r oc) :: rF r l
def mu(r:Nat->Nat)(st:St):St:={env:=wv r st.env,aH:=rF r st.aH,next:=st.next}
structure ow (base next:Nat) (r q:Nat->Nat):Prop where
 low:∀n,n<base->r n=n
 lt:∀n,n<next->r n<next
 back:∀n,n<next->q (r n)=n
 qlt:∀n,n<next->q n<next
 Rm:∀n,n<next->r (q n)=n
section
variable{X:Ext}{cx:Cx}{base next:Nat}{r q:Nat->Nat}
def ow.Yl(h:ow base next r q)(hb:base<=next){n:Nat}(hn:n<base):q n=n:=by
 have:=h.back n (by omega);rw[h.low n hn]at this;exact this
def Cs(l:List (Nat×SV))(t:Nat):look (wv r l) t=(look l t).map (BM r):=by
 induction l with
 |nil=>rfl
 |cons p l ih=>
  obtain⟨m,v⟩:=p;simp only[wv,cV];split
  ·rfl
  ·exact ih
def KQ(h:ow base next r q):∀{l:List (Nat×OC)},(∀p∈l,p.1<next)->∀m,m<next->look (rF r l) m=(look l (q m)).map (lB r):=by
 intro l;induction l with
 |nil=>intro _ m _;rfl
 |cons p l ih=>
  obtain⟨n,oc⟩:=p;intro hk m hm;have hn:n<next:=hk (n,oc) (by simp)
  simp only[rF,cV];by_cases e:r n=m
  ·rw[if_pos e,if_pos (by rw[<-e,h.back n hn])];rfl
  ·rw[if_neg e,if_neg (fun e2=>e (by rw[e2,h.Rm m hm]))]
   exact ih (fun p hp=>hk p (by simp[hp])) m hm
def Dv(h:ow base next r q):∀{l:List (Nat×OC)},(∀p∈l,p.1<next)->∀m,¬m<next->look (rF r l) m=none:=by
 intro l;induction l with
 |nil=>intro _ m _;rfl
 |cons p l ih=>
  obtain⟨n,oc⟩:=p;intro hk m hm;simp only[rF,cV];rw[if_neg (fun e=>hm (by rw[<-e];exact h.lt n (hk (n,oc) (by simp))))];exact ih (fun p hp=>hk p (by simp[hp])) m hm
def Dw{α:Type}{l:List (Nat×α)}{p:Nat×α}(hp:p∈l):∃x,look l p.1=some x:=by
 induction l with
 |nil=>cases hp
 |cons p' l ih=>
  obtain⟨m,y⟩:=p';rw[cV];by_cases e:m=p.1
  ·exact⟨y,by rw[if_pos e]⟩
  ·rw[if_neg e]
   rcases ag.1 hp with rfl|hp
   ·exact absurd rfl e
   ·exact ih hp
def KR(oc:OC):(lB r oc).lo=oc.lo:=by cases oc <;> rfl
section
variable{O:aK}{st:St}{loc:Nat->Loc}{w:World}
def qW(h:ow base st.next r q)(g:Good cx.eT X (aC O st loc w)){m:Nat}{oc':OC}:(aC O (mu r st) (fun m=>loc (q m)) w).ob m=some oc'↔m<st.next/\∃oc,look st.aH (q m)=some oc/\oc'=lB r oc:=by
 have hk:∀p∈st.aH,p.1<st.next:=fun p hp=>by
  obtain⟨x,hx⟩:=Dw hp;exact(g.obj p.1 x hx).1
 show look (rF r st.aH) m=some oc'↔_;by_cases hm:m<st.next
 ·rw[KQ h hk m hm]
  cases look st.aH (q m)with
  |none=>simp
  |some oc=>simp[hm,eq_comm]
 ·rw[Dv h hk m hm];simp[hm]
def Rn(h:ow base st.next r q)(g:Good cx.eT X (aC O st loc w)):(aC O (mu r st) (fun m=>loc (q m)) w).A=(aC O st loc w).A:=by
 funext b off
 apply propext;constructor
 ·rintro(k|⟨m,oc',k1,k2,k3⟩)
  ·exact .inl k
  ·obtain⟨hm,oc,h1,rfl⟩:=(qW h g).1 k1
   exact .inr ⟨q m,oc,h1,k2,by rwa [KR]at k3⟩
 ·rintro(k|⟨n,oc,k1,k2,k3⟩)
  ·exact .inl k
  ·have hn:=(g.obj n oc k1).1
   refine .inr ⟨r n,lB r oc,(qW h g).2 ⟨h.lt n hn,oc,by rw[h.back n hn];exact k1,rfl⟩,?_,by rw[KR];exact k3⟩;show b∈(loc (q (r n))).bs;rw[h.back n hn];exact k2
def KS(h:ow base st.next r q)(g:Good cx.eT X (aC O st loc w)){b:Nat}(hb:(aC O (mu r st) (fun m=>loc (q m)) w).owns b):(aC O st loc w).owns b:=by
 obtain⟨m,oc',k1,k2⟩:=hb;obtain⟨hm,oc,h1,rfl⟩:=(qW h g).1 k1;exact⟨q m,oc,h1,k2⟩
def Us(h:ow base st.next r q)(g:Good cx.eT X (aC O st loc w)){c:C}{v:Value}(hc:CR cx.eT (aC O st loc w) c v):CR cx.eT (aC O (mu r st) (fun m=>loc (q m)) w) (qV r c) v:=by
 have hA:=Rn (r:=r) (q:=q) h g;have obn:∀{n:Nat} {oc:OC},n<st.next->(aC O (mu r st) (fun m=>loc (q m)) w).ob (r n)=some oc->∃oc0,look st.aH n=some oc0/\oc=lB r oc0:=by
  intro n oc hn ho;obtain⟨_,oc0,h1,h2⟩:=(qW h g).1 ho;rw[h.back n hn]at h1;exact⟨oc0,h1,h2⟩
 cases c with
 |lit b=>exact hc
 |d t x=>show VR cx.eT t x _ w v;rw[hA];exact hc
 |app t xs n=>
  obtain⟨h1,h2,h3⟩:=hc;refine⟨by rw[hA];exact h1,h.lt n h2,fun ys hy =>?_⟩;obtain⟨oc0,k1,k2⟩:=obn h2 hy;cases oc0 <;> simp[lB]at k2;obtain⟨rfl,rfl⟩:=k2;obtain⟨m1,m2⟩:=h3 _ k1;exact⟨m1,fun e=>by show v=(loc (q (r n))).v;rw[h.back n h2];exact m2 e⟩
 |lz=>exact hc
 |iX=>exact hc
 |emp=>exact hc
 |bC n=>
  refine⟨h.lt n hc.1,fun t xs e =>?_⟩;obtain⟨oc0,k1,k2⟩:=obn hc.1 e;cases oc0 <;> simp[lB]at k2;obtain⟨rfl,rfl⟩:=k2;show v=(loc (q (r n))).v;rw[h.back n hc.1];exact hc.2 _ _ k1
 |qK n t lo len=>
  refine⟨h.lt n hc.1,fun xs e =>?_⟩;obtain⟨oc0,k1,k2⟩:=obn hc.1 e;cases oc0 <;> simp[lB]at k2;obtain⟨rfl,k3⟩:=k2;rcases hc.2 _ k1 with h5|⟨b,c,h5,h6⟩
  ·exact .inl h5
  ·exact .inr ⟨b,c,by show(loc (q (r n))).bs=[b];rw[h.back n hc.1];exact h5,h6⟩
 |qk n=>
  refine⟨h.lt n hc.1,fun t xs e =>?_⟩;obtain⟨oc0,k1,k2⟩:=obn hc.1 e;cases oc0 <;> simp[lB]at k2;obtain⟨rfl,rfl⟩:=k2;show v=(loc (q (r n))).v;rw[h.back n hc.1];exact hc.2 _ _ k1
 |gA n=>
  refine⟨h.lt n hc.1,fun oc e hx =>?_⟩;obtain⟨oc0,k1,k2⟩:=obn hc.1 e;have hx':oc0.isX=true:=by subst k2;cases oc0 <;> first|rfl|cases hx
  show v=(loc (q (r n))).v;rw[h.back n hc.1];exact hc.2 _ k1 hx'
 |xd n p=>
  refine⟨h.lt n hc.1,fun t x e =>?_⟩;obtain⟨oc0,k1,k2⟩:=obn hc.1 e;cases oc0 <;> simp[lB]at k2;obtain⟨rfl,rfl,k2⟩:=k2;show TY p (loc (q (r n))).v v;rw[h.back n hc.1];exact hc.2 _ _ k1
 |ref n off=>
  refine⟨h.lt n hc.1,fun T cs e =>?_⟩;obtain⟨oc0,k1,k2⟩:=obn hc.1 e;cases oc0 <;> simp[lB]at k2;show ∃b,(loc (q (r n))).v=_/\_
  rw[h.back n hc.1];exact hc.2 _ _ k1
 |tH n=>
  refine⟨h.lt n hc.1,?_⟩;rcases hc.2 with hn|hn
  ·exact .inl hn
  ·refine .inr fun T cs e =>?_
   obtain⟨oc0,k1,k2⟩:=obn hc.1 e;cases oc0 <;> simp[lB]at k2;show v=(loc (q (r n))).v;rw[h.back n hc.1];exact hn _ _ k1
 |nx n t i off=>
  refine⟨h.lt n hc.1,fun⟨xs,e⟩ =>?_⟩;show ∃b,(loc (q (r n))).bs=_/\_
  rw[h.back n hc.1];rcases e with e|e
  ·obtain⟨oc0,k1,k2⟩:=obn hc.1 e
   cases oc0 <;> simp[lB]at k2;obtain⟨rfl,rfl⟩:=k2;exact hc.2 ⟨_,.inl k1⟩
  ·obtain⟨oc0,k1,k2⟩:=obn hc.1 e
   cases oc0 <;> simp[lB]at k2;obtain⟨rfl,rfl⟩:=k2;exact hc.2 ⟨_,.inr k1⟩
 |ql t x=>
  obtain⟨b,o,us,rfl,h1,h2⟩:=hc;exact⟨b,o,us,rfl,by rw[hA];exact h1,by rw[hA];exact h2⟩
 |fn f caps=>
  obtain⟨rfl,h2⟩:=hc;refine⟨?_,fun m hm =>?_⟩
  ·congr 2
   rw[List.map_map];exact dd fun n hn=>by show _=(loc (q (r n))).v;rw[h.back n (h2 n hn).1];rfl
  ·obtain⟨n,hn,rfl⟩:=List.mem_map.1 hm
   refine⟨h.lt n (h2 n hn).1,fun t ys e =>?_⟩;obtain⟨oc0,k1,k2⟩:=obn (h2 n hn).1 e;cases oc0 <;> simp[lB]at k2;obtain⟨rfl,rfl⟩:=k2;exact(h2 n hn).2 _ _ k1
 |any=>trivial
def BN(h:ow base st.next r q)(g:Good cx.eT X (aC O st loc w)):∀{cs:List C} {vs:List Value},fD cx.eT (aC O st loc w) cs vs->fD cx.eT (aC O (mu r st) (fun m=>loc (q m)) w) (xh r cs) vs
 |_,_,.nil =>.nil
 |_,_,.cons h1 h2 h3 =>.cons (Us h g h1) h2 (BN h g h3)
def KT(h:ow base st.next r q)(g:Good cx.eT X (aC O st loc w)){x:dC}{v:Value}(hx:jG cx.eT (aC O st loc w) x v):jG cx.eT (aC O (mu r st) (fun m=>loc (q m)) w) (wq r x) v:=by
 cases x with
 |one c=>exact Us h g hx
 |agg cs=>obtain⟨vs,rfl,hv⟩:=hx;exact⟨vs,rfl,BN h g hv⟩
def Hu(h:ow base st.next r q)(g:Good cx.eT X (aC O st loc w)):∀{cs:List dC} {vs:List Value},dE cx.eT (aC O st loc w) cs vs->dE cx.eT (aC O (mu r st) (fun m=>loc (q m)) w) (wu r cs) vs
 |_,_,.nil =>.nil
 |_,_,.cons h1 h3 =>.cons (KT h g h1) (Hu h g h3)
def abe(h:ow base st.next r q)(g:Good cx.eT X (aC O st loc w)){x:SV}{v:Value}(hx:eL cx.eT (aC O st loc w) x v):eL cx.eT (aC O (mu r st) (fun m=>loc (q m)) w) (BM r x) v:=by
 cases x with
 |s x=>exact KT h g hx
 |oJ xs=>obtain⟨vs,rfl,hv⟩:=hx;exact⟨vs,rfl,Hu h g hv⟩
def zX(h:ow base st.next r q)(g:Good cx.eT X (aC O st loc w)){t:Ty}{xs:List (D t)}{vs:Array Value}(he:mo cx.eT (aC O st loc w) t xs vs):mo cx.eT (aC O (mu r st) (fun m=>loc (q m)) w) t xs vs:=by
 intro i y hy;obtain⟨us,h1,h2⟩:=he i y hy;exact⟨us,by rw[Rn h g];exact h1,h2⟩
def acH(h:ow base st.next r q)(g:Good cx.eT X (aC O st loc w)){l:Loc}{oc:OC}(ho:OR cx.eT X (aC O st loc w) l oc):OR cx.eT X (aC O (mu r st) (fun m=>loc (q m)) w) l (lB r oc):=by
 cases oc with
 |cells T cs=>obtain⟨b,vs,h1,h2,h3,h4⟩:=ho;exact⟨b,vs,h1,h2,h3,BN h g h4⟩
 |bC t xs=>
  rcases ho with ho|⟨b,vs,T,cap,h1,h2,h3,h4,h5,h6,h7⟩
  ·exact .inl ho
  ·exact .inr ⟨b,vs,T,cap,h1,h2,h3,h4,h5,h6,zX h g h7⟩
 |arr t xs=>obtain⟨b,vs,T,h1,h2,h3,h4,h5⟩:=ho;exact⟨b,vs,T,h1,h2,h3,h4,zX h g h5⟩
 |tok t xs=>
  rcases ho with ho|⟨b,vs,T,cap,h1,h2,h3,h4,h5,h6,h7⟩
  ·exact .inl ho
  ·exact .inr ⟨b,vs,T,cap,h1,h2,h3,h4,h5,h6,zX h g h7⟩
 |ext k t x=>exact ho
 |iter cs seen cl=>obtain⟨b,m,c,sn,h1,h2,h3,h4,h5,h6⟩:=ho;exact⟨b,m,c,sn,h1,h2,h3,BN h g h4,h5,h6⟩
def Ym(h:ow base st.next r q)(g:Good cx.eT X (aC O st loc w)):Good cx.eT X (aC O (mu r st) (fun m=>loc (q m)) w):=by
 refine⟨fun n oc' ho =>?_,fun n m oc oc' b h1 h2 h3 h4 =>?_,fun n oc' b off ho hb =>?_,g.lU.sub rfl fun b hb=>KS h g hb⟩
 ·obtain⟨hn,oc,k1,rfl⟩:=(qW h g).1 ho
  exact⟨hn,acH h g (g.obj _ _ k1).2⟩
 ·obtain⟨hn,oc1,k1,rfl⟩:=(qW h g).1 h1
  obtain⟨hm,oc2,k2,rfl⟩:=(qW h g).1 h2;have:=g.apart (q n) (q m) oc1 oc2 b k1 k2 h3 h4;rw[<-h.Rm n hn,<-h.Rm m hm,this]
 ·obtain⟨hn,oc,k1,rfl⟩:=(qW h g).1 ho
  exact g.out (q n) oc b off k1 hb
def Yn{l l':Loc}{a b:OC}(h:bD l l' a b):bD l l' a (lB r b):=by
 cases a <;> cases b <;> first|exact h|exact h.elim
def acI(h:ow base st.next r q)(g:Good cx.eT X (aC O st loc w)){S:bQ}(hS:S.next=base)(hb:base<=st.next)(t:Tr S (aC O st loc w)):Tr S (aC O (mu r st) (fun m=>loc (q m)) w) where
 O:=t.O
 next:=t.next
 os:=t.os
 output:=t.output
 size:=t.size
 own b hb':=t.own b (KS h g hb')
 cell b o v ha hc:=by
  obtain⟨h1,h2⟩:=t.cell b o v ha hc;exact⟨h1,by rw[Rn h g];exact h2⟩
 block:=t.block
 loc n hn hf:=by
  show(loc (q n)).v=_/\(_->loc (q n)=_);rw[h.Yl hb (by omega)];exact t.loc n hn hf
 kind n oc' hn ho:=by
  obtain⟨_,oc1,k1,rfl⟩:=(qW h g).1 ho;rw[h.Yl hb (by omega)]at k1;obtain⟨oc,k2,k3⟩:=t.kind n oc1 hn k1;refine⟨oc,k2,?_⟩;show bD (S.loc n) (loc (q n)) oc (lB r oc1);rw[h.Yl hb (by omega)];exact Yn k3
def KU{S:bQ}(hS:S.next=base)(hl:∀n,n<base->r n=n){c:C}{v:Value}(hc:CR cx.eT S c v):qV r c=c:=by
 subst hS;cases c with
 |app t xs n=>simp only[qV];rw[hl n hc.2.1]
 |bC n=>simp only[qV];rw[hl n hc.1]
 |qK n t lo len=>simp only[qV];rw[hl n hc.1]
 |qk n=>simp only[qV];rw[hl n hc.1]
 |gA n=>simp only[qV];rw[hl n hc.1]
 |xd n p=>simp only[qV];rw[hl n hc.1]
 |ref n off=>simp only[qV];rw[hl n hc.1]
 |tH n=>simp only[qV];rw[hl n hc.1]
 |nx n t i off=>simp only[qV];rw[hl n hc.1]
 |fn f caps=>
  simp only[qV];congr 1;have:caps.map r=caps.map id:=dd fun n hn=>hl n (hc.2 n hn).1
  simpa using this
 |_=>rfl
def Hv{S:bQ}(hS:S.next=base)(hl:∀n,n<base->r n=n):∀{cs:List C} {vs:List Value},fD cx.eT S cs vs->xh r cs=cs
 |_,_,.nil=>rfl
 |_,_,.cons h1 _ h3=>by simp only[xh];rw[KU hS hl h1,Hv hS hl h3]
def EP{S:bQ}(hS:S.next=base)(hl:∀n,n<base->r n=n){x:dC}{v:Value}(hc:jG cx.eT S x v):wq r x=x:=by
 cases x with
 |one c=>simp only[wq];rw[KU hS hl hc]
 |agg cs=>obtain⟨vs,_,hv⟩:=hc;simp only[wq];rw[Hv hS hl hv]
def Ct{S:bQ}(hS:S.next=base)(hl:∀n,n<base->r n=n):∀{cs:List dC} {vs:List Value},dE cx.eT S cs vs->wu r cs=cs
 |_,_,.nil=>rfl
 |_,_,.cons h1 h3=>by simp only[wu];rw[EP hS hl h1,Ct hS hl h3]
def Ut{S:bQ}(hS:S.next=base)(hl:∀n,n<base->r n=n){x:SV}{v:Value}(hc:eL cx.eT S x v):BM r x=x:=by
 cases x with
 |s x=>simp only[BM];rw[EP hS hl hc]
 |oJ xs=>obtain⟨vs,_,hv⟩:=hc;simp only[BM];rw[Ct hS hl hv]
end
def ib.ren{O:aK}{K:St->VC}{W:List Nat}{st:St}{loc:Nat->Loc}{w:World}{a a':Act}{w':World}{f:St->St}(hA:gX cx (aC O st loc w) st a)
  (hf:∀st',f st'=st'\/∃r q,ow st.next st'.next r q/\f st'=mu r st')(h:ib cx X O (fun st'=>K (f st')) W st (aC O st loc w) a' w'):ib cx X O K W st (aC O st loc w) a' w':=by
 obtain⟨st',loc',k1,k2,k3,k4,k5⟩:=h;rcases hf st' with e|⟨r,q,ht,e⟩
 ·exact⟨st',loc',by rw[<-e];exact k1,k2,k3,k4,k5⟩
 ·refine⟨mu r st',fun m=>loc' (q m),by rw[<-e];exact k1,Ym ht k2,acI ht k2 rfl k3.next k3,⟨k4.size,k4.defers,?_⟩,?_⟩
  ·intro t sv hl
   have hl:look (wv r st'.env) t=some sv:=hl;rw[Cs]at hl;obtain⟨sv0,h0,rfl⟩:=en.1 hl;exact abe ht k2 (k4.env t sv0 h0)
  ·intro hm t htW sv hl
   have hl:look (wv r st'.env) t=some sv:=hl;rw[Cs]at hl;obtain⟨sv0,h0,rfl⟩:=en.1 hl;have h1:=k5 hm t htW sv0 h0;rw[Ut (cx:=cx) (S:=aC O st loc w) rfl ht.low (hA.env t sv0 h1)];exact h1
end
def PO:C->List Nat
 |.app _ _ n|.bC n|.qk n|.gA n|.xd n _|.ref n _|.tH n|.nx n _ _ _|.qK n _ _ _=>[n]
 |.fn _ caps=>caps
 |_=>[]
def GF:List C->List Nat
 |[]=>[]
 |c :: cs=>PO c++GF cs
def acJ(aH:List (Nat×OC)):C->List Nat
 |.ref n _=>n :: (match look aH n with
  |some (.cells _ cs)=>GF cs
  |_=>[])
 |c=>PO c
def abf(aH:List (Nat×OC)):SV->List Nat
 |.s (.one c)=>acJ aH c
 |.s (.agg cs)=>GF cs
 |.oJ _=>[]
def PQ(st:St):List Nat->List Nat
 |[]=>[]
 |d :: ds=>(match look st.env d with
  |some sv=>abf st.aH sv
  |none=>[])++PQ st ds
def aaH(n:Nat):List Nat->Bool
 |[]=>false
 |m :: l=>match ab m n with
  |true=>true
  |false=>aaH n l
def J6(base next:Nat):List Nat->List Nat->List Nat
 |acc,[]=>acc
 |acc,n :: l=>match aq n base || !(aq n next) || aaH n acc with
  |true=>J6 base next acc l
  |false=>J6 base next (acc++[n]) l
def acK(base:Nat):Nat->List Nat
 |0=>[]
 |k+1=>acK base k++[base+k]
def acL(n:Nat):List Nat->Nat->Nat
 |[],_=>n
 |m :: l,i=>match ab m n with
  |true=>i
  |false=>acL n l (i+1)
def atB:List Nat->Nat->Nat->Nat
 |[],_,d=>d
 |m :: _,0,_=>m
 |_ :: l,i+1,d=>atB l i d
def uI(base:Nat)(l:List Nat)(n:Nat):Nat:=match aq n base with
 |true=>n
 |false=>acL n l base
def xi(base:Nat)(l:List Nat)(n:Nat):Nat:=match aq n base with
 |true=>n
 |false=>atB l (n-base) n
def J7(base:Nat)(l:List Nat):Nat->Nat->Bool
 |_,0=>true
 |next,k+1=>aq (uI base l k) next&&ab (xi base l (uI base l k)) k&&aq (xi base l k) next&&ab (uI base l (xi base l k)) k&&J7 base l next k
def canon(base:Nat)(ds:List Nat)(st:St):St:=
 match aq (base+1) st.next with
 |false=>st
 |true=>
  let l:=J6 base st.next (J6 base st.next [] (PQ st ds)) (acK base (st.next-base))
  match J7 base l st.next st.next with
  |true=>mu (uI base l) st
  |false=>st
def uJ{base:Nat}{l:List Nat}{next:Nat}:∀k,J7 base l next k=true->∀n,n<k->uI base l n<next/\xi base l (uI base l n)=n/\xi base l n<next/\uI base l (xi base l n)=n:=by
 intro k;induction k with
 |zero=>intro _ n hn;omega
 |succ k ih=>
  intro h n hn;simp only[J7,ae]at h;obtain⟨⟨⟨⟨h1,h2⟩,h3⟩,h4⟩,h5⟩:=h;rcases a8 n k with hk|hk
  ·exact ih h5 n hk
  ·obtain rfl:n=k:=by omega
   exact⟨nR h1,ah h2,nR h3,ah h4⟩
def ER(base:Nat)(ds:List Nat)(st:St):canon base ds st=st\/∃r q,ow base st.next r q/\canon base ds st=mu r st:=by
 unfold canon;split
 ·exact .inl rfl
 ·simp only
  split
  ·rename_i h
   refine .inr ⟨_,xi base _,⟨fun n hn =>?_,fun n hn=>(uJ _ h n hn).1,fun n hn=>(uJ _ h n hn).2.1,fun n hn=>(uJ _ h n hn).2.2.1,fun n hn=>(uJ _ h n hn).2.2.2⟩,rfl⟩;unfold uI;have:aq n base=true:=Nat.ble_eq_true_of_le hn;rw[this]
  ·exact .inl rfl
def VR.GG{eT:TypeId}{t:Ty}{x:D t}{A A':aK}{w:World}{v:Value}(h:VR eT t x A w v)(hA:∀b o,¬A b o->¬A' b o):VR eT t x A' w v:=
 VR.frame h fun b o _ ha hc=>⟨hc,hA b o ha⟩
inductive Cl where
 |d (t:Ty)
 |obj (k:Nat)
 |iX
inductive Ob where
 |box (T:TypeId) (cs:List Cl)
 |row (keep:Bool) (t:Ty)
 |tok (t:Ty)
 |ext (k:Nat) (t:Ty)
@[reducible] def CD:List Cl->Type
 |[]=>Unit
 |.d t :: r=>D t×CD r
 |.obj _ :: r=>CD r
 |.iX :: r=>CD r
@[reducible] def OD:Ob->Type
 |.box _ cs=>CD cs
 |.row _ t=>List (D t)
 |.tok t=>List (D t)
 |.ext _ t=>D t
@[reducible] def PD:List Ob->Type
 |[]=>Unit
 |o :: r=>OD o×PD r
def acM:(o:Ob)->OD o->Nat->C
 |.box _ _,_,n =>.ref n 0
 |.row _ _,_,n =>.bC n
 |.tok t,x,n =>.app t x n
 |.ext 0 _,_,n =>.xd n .top
 |.ext (_+1) _,_,n =>.gA n
def iw:(aU:List Ob)->PD aU->List Nat->Nat->C
 |o :: _,x,n :: _,0=>acM o x.1 n
 |_ :: r,x,_ :: ns,k+1=>iw r x.2 ns k
 |_,_,_,_ =>.any
def KV(f:Nat->C):(cs:List Cl)->CD cs->List C
 |[],_=>[]
 |.d t :: r,x =>.d t x.1 :: KV f r x.2
 |.obj k :: r,x=>f k :: KV f r x
 |.iX :: r,x =>.iX :: KV f r x
def zY(f:Nat->C):(cs:List Cl)->CD cs->List dC
 |[],_=>[]
 |.d t :: r,x =>.one (.d t x.1) :: zY f r x.2
 |.obj k :: r,x =>.one (f k) :: zY f r x
 |.iX :: r,x =>.one .iX :: zY f r x
def rG(f:Nat->C):(o:Ob)->OD o->OC
 |.box T cs,x =>.cells T (KV f cs x)
 |.row _ t,x =>.bC t x
 |.tok t,x =>.tok t x
 |.ext k t,x =>.ext k t x
def mQ(f:Nat->C):(os:List Ob)->PD os->List Nat->List (Nat×OC)
 |o :: r,x,n :: ns=>(n,rG f o x.1) :: mQ f r x.2 ns
 |_,_,_=>[]
def aaI:C->Option Nat
 |.ref n 0=>some n
 |.bC n=>some n
 |.app _ _ n=>some n
 |.gA n=>some n
 |.xd n .top=>some n
 |_=>none
def Uu(aem:List (Nat×Nat))(cl:Cl)(c:C):Option (List (Nat×Nat)):=
 match cl with
 |.obj k=>match aaI c with
  |some n=>match look aem k with
   |some m=>match ab m n with
    |true=>some aem
    |false=>none
   |none=>some ((k,n) :: aem)
  |none=>none
 |_=>some aem
def PR:List Cl->List C->List (Nat×Nat)->Option (List (Nat×Nat))
 |[],[],aem=>some aem
 |cl :: cls,c :: cs,aem=>match Uu aem cl c with
  |some as'=>PR cls cs as'
  |none=>none
 |_,_,_=>none
def Uv:List Cl->List dC->List (Nat×Nat)->Option (List (Nat×Nat))
 |[],[],aem=>some aem
 |cl :: cls,v :: vs,aem=>match Uu aem cl (match v with|.one c=>c|.agg _ =>.any)with
  |some as'=>Uv cls vs as'
  |none=>none
 |_,_,_=>none
def BO(aH:List (Nat×OC)):Nat->List Ob->List (Nat×Nat)->Option (List (Nat×Nat))
 |_,[],aem=>some aem
 |k,.box _ cls :: r,aem=>match look aem k with
  |some n=>match look aH n with
   |some (.cells _ cs)=>match PR cls cs aem with
    |some as'=>BO aH (k+1) r as'
    |none=>none
   |_=>none
  |none=>none
 |k,_ :: r,aem=>BO aH (k+1) r aem
def zZ(aem:List (Nat×Nat)):Nat->Nat->Option (List Nat)
 |_,0=>some []
 |k,m+1=>match look aem k,zZ aem (k+1) m with
  |some n,some l=>some (n :: l)
  |_,_=>none
def nodupB:List Nat->Bool
 |[]=>true
 |n :: r =>!(pL n r)&&nodupB r
def z1:List Nat->Nat->Option Nat
 |n :: _,0=>some n
 |_ :: r,k+1=>z1 r k
 |[],_=>none
def xj:List Ob->Nat->Option Ob
 |o :: _,0=>some o
 |_ :: r,k+1=>xj r k
 |[],_=>none
def lO(cv:Bool)(aH:List (Nat×OC))(aU:List Ob)(ν:List Nat)(k:Nat)(c:C):Bool:=
 match xj aU k,z1 ν k,c with
 |some (.box _ _),some n,.ref m 0=>ab n m
 |some (.row _ _),some n,.bC m=>ab n m&&(match look aH n with|some (.bC _ _)=>true|_=>false)
 |some (.row _ t),some n,.app t' _ m=>cv&&(ab n m&&(Ty.beq t' t&&(match look aH n with|some (.tok _ _)=>true|_=>false)))
 |some (.tok t),some n,.app t' _ m=>ab n m&&Ty.beq t' t
 |some (.ext 0 _),some n,.xd m .top=>ab n m
 |some (.ext (_+1) _),some n,.gA m=>ab n m
 |_,_,_=>false
def pR(cv:Bool)(aH:List (Nat×OC))(aU:List Ob)(ν:List Nat):(cls:List Cl)->List C->Option (CD cls)
 |[],[]=>some ()
 |.d t :: r,c :: cs=>match uz t c,pR cv aH aU ν r cs with
  |some x,some y=>some (x,y)
  |_,_=>none
 |.obj k :: r,c :: cs=>match lO cv aH aU ν k c with
  |true=>pR cv aH aU ν r cs
  |false=>none
 |.iX :: r,c :: cs=>match c with
  |.iX=>pR cv aH aU ν r cs
  |_=>none
 |_,_=>none
def nC(cv:Bool)(aH:List (Nat×OC))(aU:List Ob)(ν:List Nat):(cls:List Cl)->List dC->Option (CD cls)
 |[],[]=>some ()
 |.d t :: r,v :: vs=>match sP t v,nC cv aH aU ν r vs with
  |some x,some y=>some (x,y)
  |_,_=>none
 |.obj k :: r,v :: vs=>match v with
  |.one c=>match lO cv aH aU ν k c with
   |true=>nC cv aH aU ν r vs
   |false=>none
  |_=>none
 |.iX :: r,v :: vs=>match v with
  |.one .iX=>nC cv aH aU ν r vs
  |_=>none
 |_,_=>none
def Uw(t t':Ty)(xs:List (D t')):Option (List (D t)):=
 match h:Ty.beq (.slice t') (.slice t)with
 |true=>some (cX h (a:=.slice t') (b:=.slice t) xs)
 |false=>none
def toX(t t':Ty)(x:D t'):Option (D t):=
 match h:Ty.beq t' t with
 |true=>some (cX h x)
 |false=>none
def lf(cv:Bool)(aH:List (Nat×OC))(aU:List Ob)(ν:List Nat):(o:Ob)->OC->Option (OD o)
 |.box T cls,.cells T' cs=>match ab T' T with
  |true=>pR cv aH aU ν cls cs
  |false=>none
 |.row _ t,.bC t' xs=>Uw t t' xs
 |.row _ t,.tok t' xs=>match cv with
  |true=>Uw t t' xs
  |false=>none
 |.tok t,.tok t' xs=>Uw t t' xs
 |.ext k t,.ext k' t' x=>match ab k' k with
  |true=>toX t t' x
  |false=>none
 |_,_=>none
def fE(cv:Bool)(aH:List (Nat×OC))(aU:List Ob)(ν:List Nat):(os:List Ob)->List Nat->Option (PD os)
 |[],[]=>some ()
 |o :: r,n :: ns=>match look aH n with
  |some oc=>match lf cv aH aU ν o oc,fE cv aH aU ν r ns with
   |some x,some y=>some (x,y)
   |_,_=>none
  |none=>none
 |_,_=>none
def vt:(os:List Ob)->PD os->Nat->C->List Prop
 |.tok t :: _,x,0,.app t' xs _=>match h:Ty.beq (.slice t') (.slice t)with
  |true=>[cX h (a:=.slice t') (b:=.slice t) xs=x.1]
  |false=>[False]
 |.row _ t :: _,x,0,.app t' xs _=>match h:Ty.beq (.slice t') (.slice t)with
  |true=>[cX h (a:=.slice t') (b:=.slice t) xs=x.1]
  |false=>[False]
 |_ :: r,x,k+1,c=>vt r x.2 k c
 |_,_,_,_=>[]
def rH(aU:List Ob)(x:PD aU):List Cl->List C->List Prop
 |.obj k :: r,c :: cs=>vt aU x k c++rH aU x r cs
 |_ :: r,_ :: cs=>rH aU x r cs
 |_,_=>[]
def nS(aU:List Ob)(x:PD aU):List Cl->List dC->List Prop
 |.obj k :: r,v :: vs=>(match v with|.one c=>vt aU x k c|.agg _=>[])++nS aU x r vs
 |_ :: r,_ :: vs=>nS aU x r vs
 |_,_=>[]
def jX(aU:List Ob)(x:PD aU)(aH:List (Nat×OC)):List Ob->List Nat->List Prop
 |.box _ cls :: r,n :: ns=>(match look aH n with|some (.cells _ cs)=>rH aU x cls cs|_=>[])++jX aU x aH r ns
 |_ :: r,_ :: ns=>jX aU x aH r ns
 |_,_=>[]
def KW:List Prop->Prop
 |[]=>True
 |[p]=>p
 |p :: q :: r=>p/\KW (q :: r)
def Yo:List Prop->VC->VC
 |[],k=>k
 |p :: r,k =>.and p (Yo r k)
def xk{n:Nat}:∀{l:List Nat},pL n l=true->n∈l
 |[],h=>by simp[pL]at h
 |m :: r,h=>by
  simp only[pL]at h;split at h
  ·rename_i e;rw[ah e];simp
  ·simp[xk h]
def dZ{α:Type}(l r:List (Nat×α))(n:Nat):look (l++r) n=match look l n with|some x=>some x|none=>look r n:=by
 induction l with
 |nil=>rfl
 |cons p l ih=>
  obtain⟨m,x⟩:=p;simp only[List.cons_append,look];cases ab m n
  ·exact ih
  ·rfl
section
variable(eT:TypeId)(X:Ext)
def z6:Value->Value
 |.tuple vs=>vs.toList.headD .nilFunc
 |v=>v
def GH(ls:List Loc)(k:Nat)(v:Value):Prop:=∃l,ls[k]?=some l/\v=z6 l.v
def vu(S:bQ)(F:Nat->Value->Prop):(cls:List Cl)->CD cls->List Value->Prop
 |[],_,vs=>vs=[]
 |.d t :: r,x,v :: vs=>VR eT t x.1 S.A S.w v/\vu S F r x.2 vs
 |.obj k :: r,x,v :: vs=>F k v/\vu S F r x vs
 |.iX :: r,x,v :: vs=>v=.pointer none/\vu S F r x vs
 |_,_,_=>False
def Ux(S:bQ)(F:Nat->Value->Prop):(o:Ob)->OD o->Loc->Prop
 |.box T cls,x,l=>∃b,∃vs:List Value,l.v=.pointer (some ⟨b,0,none⟩)/\l.bs=[b]/\S.w.heap[b]?=some (.cells vs.toArray T (0,0))/\vu eT S F cls x vs/\∀v∈vs,v.oneCell'=true
 |.row _ t,x,l=>OR eT X S l (.bC t x)
 |.tok t,x,l=>OR eT X S l (.tok t x)
 |.ext k t,x,l=>OR eT X S l (.ext k t x)
def Ro(S:bQ)(F:Nat->Value->Prop):(os:List Ob)->PD os->List Loc->Prop
 |[],_,ls=>ls=[]
 |o :: r,x,l :: ls=>Ux eT X S F o x.1 l/\Ro S F r x.2 ls
 |_,_,_=>False
end
section
variable{eT:TypeId}{X:Ext}
def kB{a b:List Prop}:(∀p∈a++b,p)↔(∀p∈a,p)/\(∀p∈b,p):=by
 simp only[ba];exact⟨fun h=>⟨fun p hp=>h p (.inl hp),fun p hp=>h p (.inr hp)⟩,fun h p hp=>hp.elim (h.1 p) (h.2 p)⟩
def xl:∀{l:List Prop},KW l->∀p∈l,p
 |[],_=>fun p hp=>by simp at hp
 |[q],h=>fun p hp=>by simp at hp;rw[hp];exact h
 |q :: r :: l,h=>fun p hp=>by
  rcases ag.1 hp with e|hp
  ·rw[e];exact h.1
  ·exact xl h.2 p hp
def Dx{k:VC}:∀{l:List Prop},(Yo l k).holds->(∀p∈l,p)/\k.holds
 |[],h=>⟨fun p hp=>by simp at hp,h⟩
 |q :: l,h=>by
  obtain⟨h1,h2⟩:=h;obtain⟨h3,h4⟩:=Dx h2;exact⟨fun p hp=>by
   rcases ag.1 hp with e|hp
   ·rw[e];exact h1
   ·exact h3 p hp,h4⟩
def qp{t t':Ty}{xs:List (D t')}{ys:List (D t)}(h:Uw t t' xs=some ys):∃e:t'=t,e▸xs=ys:=by
 unfold Uw at h;split at h
 ·rename_i hb
  have:t'=t:=by have:=Ty.eq_of_beq hb;cases this;rfl
  subst this;cases h;exact⟨rfl,by rw[im]⟩
 ·cases h
def KX{t t':Ty}{x:D t'}{y:D t}(h:toX t t' x=some y):∃e:t'=t,e▸x=y:=by
 unfold toX at h;split at h
 ·rename_i hb
  have:=Ty.eq_of_beq hb;subst this;cases h;exact⟨rfl,by rw[lA]⟩
 ·cases h
def PS{t t':Ty}{xs:List (D t')}{ys:List (D t)}(hb:Ty.beq t' t=true)(h:∀p∈(match h:Ty.beq (.slice t') (.slice t)with
  |true=>[cX h (a:=.slice t') (b:=.slice t) xs=ys]
  |false=>[False]),p):∃e:t'=t,e▸xs=ys:=by
 have:=Ty.eq_of_beq hb;subst this;refine⟨rfl,?_⟩;split at h
 ·rename_i hb'
  have:=h (cX hb' (a:=.slice t') (b:=.slice t') xs=ys) (by simp);rw[im]at this;exact this
 ·exact(h False (by simp)).elim
def BP{cv:Bool}{aU:List Ob}{ν:List Nat}{O:aK}{st:St}{loc:Nat->Loc}{w:World}{c:C}{v:Value}(g:Good eT X (aC O st loc w))(hc:CR eT (aC O st loc w) c v) :
  ∀{os:List Ob} {ns:List Nat} {x:PD os} {k:Nat},fE cv st.aH aU ν os ns=some x->lO cv st.aH os ns k c=true->(∀p∈vt os x k c,p)->GH (ns.map loc) k v:=by
 intro os;induction os with
 |nil=>intro ns x k _ h;simp[lO,xj]at h
 |cons o r ih=>
  intro ns x k hg hs hp;cases ns with
  |nil=>simp[fE]at hg
  |cons n ns=>
   simp only[fE]at hg;split at hg
   case h_2=>cases hg
   rename_i oc hob;split at hg
   case h_2=>cases hg
   rename_i x0 y0 h1 h2;cases hg;cases k with
   |succ k=>
    have hs':lO cv st.aH r ns k c=true:=by simpa[lO,xj,z1]using hs
    have hp':∀p∈vt r y0 k c,p:=by cases o <;> cases c <;> simpa[vt]using hp
    obtain⟨l,h3,h4⟩:=ih h2 hs' hp';exact⟨l,by simpa using h3,h4⟩
   |zero=>
    refine⟨loc n,by simp,?_⟩;cases o with
    |box T cls=>
     cases c <;> simp[lO,xj,z1]at hs;rename_i m off;cases off with
     |succ off=>simp at hs
     |zero=>
      have hs:n=m:=by simpa using hs
      subst hs;cases oc <;> simp only[lf,reduceCtorEq]at h1;obtain⟨b,k1,k2⟩:=hc.2 _ _ hob;have k1:(loc n).v=_:=k1;rw[k2,k1];rfl
    |row kp t=>
     cases c <;> simp[lO,xj,z1]at hs
     ·rename_i t' xs m
      obtain⟨_,hs,hb,hk⟩:=hs;subst hs;simp only[vt]at hp;obtain⟨e,he⟩:=PS hb hp;subst e;rw[hob]at hk;cases oc <;> simp at hk;rename_i t2 ys;cases cv <;> simp only[lf,reduceCtorEq]at h1;obtain⟨e2,h3⟩:=qp h1;subst e2;simp only at h3 he;subst h3;subst he;have hv:=(hc.2.2 _ hob).2 rfl;rcases(g.obj n _ hob).2 with⟨_,⟨a,ha⟩,_⟩|⟨b,vs,T,cap,ha,_⟩ <;> (rw[hv];show(loc n).v=z6 (loc n).v;rw[show(loc n).v=_ from ha];rfl)
     ·rename_i m
      obtain⟨hs,hk⟩:=hs;subst hs;rw[hob]at hk;cases oc <;> simp at hk;rw[hc.2 _ _ hob];rcases(g.obj n _ hob).2 with⟨_,⟨a,ha⟩,_⟩|⟨b,vs,T,cap,ha,_⟩ <;> rw[show(aC O st loc w).loc n=loc n from rfl,show(loc n).v=_ from ha] <;> rfl
    |tok t=>
     cases c <;> simp[lO,xj,z1]at hs;rename_i t' xs m;obtain⟨hs,hb⟩:=hs;subst hs;simp only[vt]at hp;obtain⟨e,he⟩:=PS hb hp;subst e;cases oc <;> simp only[lf,reduceCtorEq]at h1;obtain⟨e2,h3⟩:=qp h1;subst e2;simp only at h3 he;subst h3;subst he;have hv:=(hc.2.2 _ hob).2 rfl;rcases(g.obj n _ hob).2 with⟨_,⟨a,ha⟩,_⟩|⟨b,vs,T,cap,ha,_⟩ <;> (rw[hv];show(loc n).v=z6 (loc n).v;rw[show(loc n).v=_ from ha];rfl)
    |ext k t=>
     cases k with
     |zero=>
      cases c <;> simp[lO,xj,z1]at hs;rename_i m p;cases p <;> simp at hs;subst hs;cases oc <;> simp only[lf,reduceCtorEq]at h1;split at h1
      case h_2=>cases h1
      rename_i hk;have hk:=ah hk;subst hk;obtain⟨hs',hl⟩:=hc.2 _ _ hob;rw[show(loc n).v=_ from hl];rfl
     |succ k=>
      cases c <;> simp[lO,xj,z1]at hs;subst hs;cases oc <;> simp only[lf,reduceCtorEq]at h1;split at h1
      case h_2=>cases h1
      rename_i hk;have hk:=ah hk;have hgx:=(g.obj n _ hob).2;have hv:∃u,(loc n).v=u/\z6 u=u:=by
       subst hk;cases k with
       |zero=>obtain⟨e,_,b,es,gv,hm⟩:=X.map.1 hgx;exact⟨_,hm.lv,rfl⟩
       |succ k=>obtain⟨a,ha⟩:=X.ptr (by omega) hgx;exact⟨_,ha,rfl⟩
      obtain⟨u,hu,hu2⟩:=hv;rw[hc.2 _ hob rfl,show(aC O st loc w).loc n=loc n from rfl,hu];exact hu2.symm
def Rp{cv:Bool}{aU:List Ob}{ν:List Nat}{x:PD aU}{O:aK}{st:St}{loc:Nat->Loc}{w:World}(g:Good eT X (aC O st loc w))(hx:fE cv st.aH aU ν aU ν=some x) :
  ∀{cls:List Cl} {cs:List C} {y:CD cls} {vs:List Value},pR cv st.aH aU ν cls cs=some y->fD eT (aC O st loc w) cs vs->(∀p∈rH aU x cls cs,p)->
   vu eT (aC O st loc w) (GH (ν.map loc)) cls y vs:=by
 intro cls;induction cls with
 |nil=>
  intro cs y vs h hc _;cases cs with
  |nil=>cases hc;exact rfl
  |cons c cs=>simp[pR]at h
 |cons cl r ih=>
  intro cs y vs h hc hp;cases hc with
  |nil=>cases cl <;> simp[pR]at h
  |cons h1 h2 h3=>
   rename_i c v cs vs;cases cl with
   |d t=>
    simp only[pR]at h;split at h
    ·rename_i x0 y0 k1 k2
     cases h;exact⟨rB k1 h1,ih k2 h3 (fun p hp'=>hp p (by simpa[rH]using hp'))⟩
    ·cases h
   |obj k=>
    simp only[pR]at h;split at h
    ·rename_i hs
     simp only[rH]at hp;obtain⟨p1,p2⟩:=kB.1 hp;exact⟨BP g h1 hx hs p1,ih h h3 p2⟩
    ·cases h
   |iX=>
    simp only[pR]at h;split at h
    ·exact⟨h1,ih h h3 (fun p hp'=>hp p (by simpa[rH]using hp'))⟩
    ·cases h
def Hw{cv:Bool}{aU:List Ob}{ν:List Nat}{x:PD aU}{O:aK}{st:St}{loc:Nat->Loc}{w:World}(g:Good eT X (aC O st loc w))(hx:fE cv st.aH aU ν aU ν=some x) :
  ∀{cls:List Cl} {cs:List dC} {y:CD cls} {vs:List Value},nC cv st.aH aU ν cls cs=some y->dE eT (aC O st loc w) cs vs->(∀p∈nS aU x cls cs,p)->
   vu eT (aC O st loc w) (GH (ν.map loc)) cls y vs:=by
 intro cls;induction cls with
 |nil=>
  intro cs y vs h hc _;cases cs with
  |nil=>cases hc;exact rfl
  |cons c cs=>simp[nC]at h
 |cons cl r ih=>
  intro cs y vs h hc hp;cases hc with
  |nil=>cases cl <;> simp[nC]at h
  |cons h1 h3=>
   rename_i c v cs vs;cases cl with
   |d t=>
    simp only[nC]at h;split at h
    ·rename_i x0 y0 k1 k2
     cases h;exact⟨nA k1 h1,ih k2 h3 (fun p hp'=>hp p (by simpa[nS]using hp'))⟩
    ·cases h
   |obj k=>
    simp only[nC]at h;split at h
    ·split at h
     ·rename_i hs
      simp only[nS]at hp;obtain⟨p1,p2⟩:=kB.1 hp;exact⟨BP g h1 hx hs p1,ih h h3 p2⟩
     ·cases h
    ·cases h
   |iX=>
    simp only[nC]at h;split at h
    ·exact⟨h1,ih h h3 (fun p hp'=>hp p (by simpa[nS]using hp'))⟩
    ·cases h
def qX{cv:Bool}{aU:List Ob}{ν:List Nat}{x:PD aU}{O:aK}{st:St}{loc:Nat->Loc}{w:World}(g:Good eT X (aC O st loc w))(hx:fE cv st.aH aU ν aU ν=some x) :
  ∀{os:List Ob} {ns:List Nat} {y:PD os},fE cv st.aH aU ν os ns=some y->(∀p∈jX aU x st.aH os ns,p)->
   Ro eT X (aC O st loc w) (GH (ν.map loc)) os y (ns.map loc):=by
 intro os;induction os with
 |nil=>
  intro ns y h _;cases ns with
  |nil=>exact rfl
  |cons n ns=>simp[fE]at h
 |cons o r ih=>
  intro ns y h hp;cases ns with
  |nil=>simp[fE]at h
  |cons n ns=>
   simp only[fE]at h;split at h
   case h_2=>cases h
   rename_i oc hob;split at h
   case h_2=>cases h
   rename_i x0 y0 h1 h2;cases h;have hor:=(g.obj n oc hob).2;have hrest:∀p∈jX aU x st.aH r ns,p:=by
    cases o <;> simp only[jX]at hp
    ·exact(kB.1 hp).2
    ·exact hp
    ·exact hp
    ·exact hp
   refine⟨?_,ih h2 hrest⟩;show Ux eT X _ _ o x0 (loc n);cases o with
   |box T cls=>
    cases oc <;> simp only[lf,reduceCtorEq]at h1;rename_i T' cs;split at h1
    case h_2=>cases h1
    rename_i hT;have hT:=ah hT;subst hT;obtain⟨b,vs,k1,k2,k3,k4⟩:=hor;simp only[jX,hob]at hp;exact⟨b,vs,k1,k2,k3,Rp g hx h1 k4 (kB.1 hp).1,fun v hv=>fD.Kv k4 v hv⟩
   |row kp t=>
    cases oc <;> simp only[lf,reduceCtorEq]at h1
    ·obtain⟨e,h3⟩:=qp h1
     subst e;simp only at h3;subst h3;exact hor
    ·split at h1
     ·obtain⟨e,h3⟩:=qp h1
      subst e;simp only at h3;subst h3;exact hor
     ·cases h1
   |tok t=>
    cases oc <;> simp only[lf,reduceCtorEq]at h1;obtain⟨e,h3⟩:=qp h1;subst e;simp only at h3;subst h3;exact hor
   |ext k t=>
    cases oc <;> simp only[lf,reduceCtorEq]at h1;split at h1
    case h_2=>cases h1
    rename_i hk;have hk:=ah hk;subst hk;obtain⟨e,h3⟩:=KX h1;subst e;simp only at h3;subst h3;exact hor
end
def la:List Cl->Bool
 |[]=>true
 |.d t :: r=>t.flat&&la r
 |_ :: r=>la r
def iv:List Ob->Bool
 |[]=>true
 |.box _ cls :: r=>la cls&&iv r
 |.row _ t :: r=>t.flat&&iv r
 |.tok t :: r=>t.flat&&iv r
 |.ext _ _ :: r=>iv r
def uK:List Ob->Bool
 |[]=>true
 |.tok _ :: _=>false
 |_ :: r=>uK r
section
variable{eT:TypeId}{X:Ext}
def VR.to{t:Ty}{x:D t}{S S':bQ}{v:Value}(hw:S'.w=S.w)(hA:t.flat=true\/∀b o,S'.A b o->S.A b o)(h:VR eT t x S.A S.w v):VR eT t x S'.A S'.w v:=by
 rcases hA with hA|hA
 ·exact VR.of_flat hA h
 ·rw[hw];exact VR.GG h fun b o k h'=>k (hA b o h')
def Laid(eT:TypeId)(S:bQ):(os:List Ob)->PD os->List Nat->List Loc->Prop
 |[],_,ns,ls=>ns=[]/\ls=[]
 |o :: r,x,n :: ns,l :: ls=>(S.loc n=l/\n<S.next/\(match o,x.1 with
  |.box _ _,_=>∃b,l.v=.pointer (some ⟨b,0,none⟩)
  |.tok t,y=>VR eT (.slice t) y S.A S.w l.v/\∀ys,S.ob n=some (.tok t ys)->ys=y
  |.row _ _,_=>∃a k c,l.v=.slice a k c
  |.ext 0 _,_=>∃v,∃hs:List Value,l.v=.tuple (v :: hs).toArray
  |.ext (_+1) _,_=>z6 l.v=l.v))/\Laid eT S r x.2 ns ls
 |_,_,_,_=>False
def z7{S:bQ}:∀{os:List Ob} {x:PD os} {ns:List Nat} {ls:List Loc} {k:Nat} {v:Value},Laid eT S os x ns ls->GH ls k v->CR eT S (iw os x ns k) v:=by
 intro os;induction os with
 |nil=>intro x ns ls k v h hr;exact trivial
 |cons o r ih=>
  intro x ns ls k v h hr
  match ns,ls,h with
  |n :: ns,l :: ls,⟨⟨h1,h2,h3⟩,h4⟩=>
   obtain⟨l0,hl,hv⟩:=hr;cases k with
   |succ k=>exact ih h4 ⟨l0,by simpa using hl,hv⟩
   |zero=>
    simp at hl;subst hl;subst hv;show CR eT S (acM o x.1 n) _;cases o with
    |box T cls=>
     obtain⟨b,hb⟩:=h3;rw[hb];exact⟨h2,fun T cs _=>⟨b,by rw[h1];exact hb,rfl⟩⟩
    |row kp t=>
     obtain⟨a,k,c,hb⟩:=h3;rw[hb];exact⟨h2,fun t xs _=>by rw[h1,hb];rfl⟩
    |tok t=>
     obtain⟨a,c,hb,_⟩:=wh h3.1;rw[show z6 l.v=l.v by rw[hb];rfl];exact⟨h3.1,h2,fun ys hy=>by rw[h3.2 ys hy];exact⟨ai _,fun _=>by rw[h1]⟩⟩
    |ext k t=>
     cases k with
     |zero=>
      obtain⟨v,hs,hb⟩:=h3;rw[hb];exact⟨h2,fun t x _=>⟨hs,by rw[h1,hb];rfl⟩⟩
     |succ k=>
      rw[show z6 l.v=l.v from h3];exact⟨h2,fun oc _ _=>by rw[h1]⟩
def Yp{S S':bQ}{F:Nat->Value->Prop}{f:Nat->C}(hw:S'.w=S.w)(hF:∀k v,F k v->CR eT S' (f k) v):∀{cls:List Cl} {x:CD cls} {vs:List Value},
  (la cls=true\/∀b o,S'.A b o->S.A b o)->vu eT S F cls x vs->(∀v∈vs,v.oneCell'=true)->fD eT S' (KV f cls x) vs:=by
 intro cls;induction cls with
 |nil=>intro x vs _ h _;rw[show vs=[]from h];exact .nil
 |cons cl r ih=>
  intro x vs hA h h1;cases vs with
  |nil=>cases cl <;> exact h.elim
  |cons v vs=>
   have hr:la r=true\/∀b o,S'.A b o->S.A b o:=by
    rcases hA with hA|hA
    ·left;cases cl <;> simp[la]at hA <;> first|exact hA.2|exact hA
    ·exact .inr hA
   cases cl with
   |d t=>
    refine .cons (VR.to hw ?_ h.1) (h1 v (by simp)) (ih hr h.2 fun u hu=>h1 u (by simp[hu]));rcases hA with hA|hA
    ·left;simp[la]at hA;exact hA.1
    ·exact .inr hA
   |obj k=>exact .cons (hF k v h.1) (h1 v (by simp)) (ih hr h.2 fun u hu=>h1 u (by simp[hu]))
   |iX=>exact .cons h.1 (h1 v (by simp)) (ih hr h.2 fun u hu=>h1 u (by simp[hu]))
def KY{S S':bQ}{F:Nat->Value->Prop}{f:Nat->C}(hw:S'.w=S.w)(hF:∀k v,F k v->CR eT S' (f k) v):∀{cls:List Cl} {x:CD cls} {vs:List Value},
  (la cls=true\/∀b o,S'.A b o->S.A b o)->vu eT S F cls x vs->dE eT S' (zY f cls x) vs:=by
 intro cls;induction cls with
 |nil=>intro x vs _ h;rw[show vs=[]from h];exact .nil
 |cons cl r ih=>
  intro x vs hA h;cases vs with
  |nil=>cases cl <;> exact h.elim
  |cons v vs=>
   have hr:la r=true\/∀b o,S'.A b o->S.A b o:=by
    rcases hA with hA|hA
    ·left;cases cl <;> simp[la]at hA <;> first|exact hA.2|exact hA
    ·exact .inr hA
   cases cl with
   |d t=>
    refine .cons (show VR eT t x.1 S'.A S'.w v from VR.to hw ?_ h.1) (ih hr h.2);rcases hA with hA|hA
    ·left;simp[la]at hA;exact hA.1
    ·exact .inr hA
   |obj k=>exact .cons (hF k v h.1) (ih hr h.2)
   |iX=>exact .cons h.1 (ih hr h.2)
def mo.to{S S':bQ}{t:Ty}{xs:List (D t)}{vs:Array Value}(hw:S'.w=S.w)(hA:t.flat=true\/∀b o,S'.A b o->S.A b o)(h:mo eT S t xs vs):mo eT S' t xs vs:=by
 intro i y hy;obtain⟨us,h1,h2⟩:=h i y hy;refine⟨us,?_,h2⟩;rcases hA with hA|hA
 ·exact h1.of_flat hA
 ·rw[hw];exact h1.frame fun b o v k h'=>⟨h',fun h''=>k (hA b o h'')⟩
def Dy.to{S S':bQ}{t:Ty}{xs:List (D t)}{l:Loc}(hw:S'.w=S.w)(hA:t.flat=true\/∀b o,S'.A b o->S.A b o)(h:OR eT X S l (.bC t xs)):OR eT X S' l (.bC t xs):=by
 rcases h with h|⟨b,vs,T,cap,h1,h2,h3,h4,h5,h6,h7⟩
 ·exact .inl h
 ·exact .inr ⟨b,vs,T,cap,h1,h2,by rw[hw];exact h3,h4,h5,h6,h7.to hw hA⟩
def tR(o:Ob):Bool:=iv [o]
def acO{S S':bQ}{F:Nat->Value->Prop}{f:Nat->C}(hw:S'.w=S.w)(hF:∀k v,F k v->CR eT S' (f k) v){o:Ob}{x:OD o}{l:Loc}
  (hA:tR o=true\/∀b o,S'.A b o->S.A b o)(h:Ux eT X S F o x l):OR eT X S' l (rG f o x):=by
 cases o with
 |box T cls=>
  obtain⟨b,vs,h1,h2,h3,h4,h5⟩:=h;refine⟨b,vs,h1,h2,by rw[hw];exact h3,Yp hw hF ?_ h4 h5⟩;rcases hA with hA|hA
  ·left;simpa[tR,iv]using hA
  ·exact .inr hA
 |row kp t=>
  refine Dy.to hw ?_ h;rcases hA with hA|hA
  ·left;simpa[tR,iv]using hA
  ·exact .inr hA
 |tok t=>
  refine Dy.to (X:=X) (l:=l) hw ?_ h;rcases hA with hA|hA
  ·left;simpa[tR,iv]using hA
  ·exact .inr hA
 |ext k t=>show X.rel _ _ _ _ _;rw[hw];exact h
def Yq{S:bQ}{t:Ty}{xs:List (D t)}{l:Loc}(h:OR eT X S l (.tok t xs))(hA:∀b∈l.bs,∀off,off<xs.length*t.size->¬S.A b off):VR eT (.slice t) xs S.A S.w l.v:=by
 rcases h with⟨rfl,⟨a,ha⟩,_⟩|⟨b,vs,T,cap,h1,h2,h3,h4,h5,h6,he⟩
 ·exact VR.cZ rfl ⟨_,rfl,by simp,.inl ⟨rfl,a,0,ha⟩⟩
 ·refine VR.cZ rfl ⟨_,rfl,h6,.inr ⟨b,0,cap,h1,h5,fun i y hy =>?_⟩⟩
  obtain⟨us,r1,r2⟩:=he i y hy;refine⟨us,r1,fun j u hj=>⟨?_,?_⟩⟩
  ·rw[ay,cell_of_row S.w b _ vs T (0,0) h3];exact r2 j u hj
  ·rw[ay]
   refine hA b (by rw[h2];simp) _ ?_;have hi:=bN hy;have hjl:=bN hj;rw[r1.length]at hjl;have:(i+1)*t.size<=xs.length*t.size:=ct _ hi;rw[b8]at this;omega
def fU:List Nat->List Loc->(Nat->Loc)->Nat->Loc
 |n :: ns,l :: ls,d,m=>if n=m then l else fU ns ls d m
 |_,_,d,m=>d m
def nr:∀{ns:List Nat} {ls:List Loc} {d:Nat->Loc} {m:Nat},m∉ns->fU ns ls d m=d m
 |[],_,_,_,_=>by cases ‹List Loc› <;> rfl
 |n :: ns,[],_,_,_=>rfl
 |n :: ns,l :: ls,d,m,h=>by
  simp only[ag,not_or]at h;simp only[fU];rw[if_neg (fun e=>h.1 e.symm)];exact nr h.2
def Dz{n:Nat}{l:List Nat}:pL n l=true↔n∈l:=by
 refine⟨xk,fun h =>?_⟩;induction l with
 |nil=>simp at h
 |cons m r ih=>
  simp only[pL];split
  ·rfl
  ·rename_i hb
   rcases ag.1 h with h|h
   ·subst h;rw[bh]at hb;cases hb
   ·exact ih h
def pS{n:Nat}{r:List Nat}(h:nodupB (n :: r)=true):n∉r/\nodupB r=true:=by
 simp only[nodupB,ae,bd]at h;exact⟨fun hm=>by rw[Dz.2 hm]at h;exact absurd h.1 (by decide),h.2⟩
def lH:∀{ns:List Nat} {ls:List Loc} {d:Nat->Loc} {i n:Nat} {l:Loc},nodupB ns=true->ns[i]?=some n->ls[i]?=some l->fU ns ls d n=l
 |[],_,_,_,_,_,_,h,_=>by simp at h
 |n :: ns,[],_,_,_,_,_,_,h=>by simp at h
 |n :: ns,l :: ls,d,0,m,k,_,h1,h2=>by simp at h1 h2;subst h1;subst h2;simp[fU]
 |n :: ns,l :: ls,d,i+1,m,k,hn,h1,h2=>by
  obtain⟨hm,hn⟩:=pS hn;simp at h1 h2;simp only[fU];rw[if_neg (fun e=>hm (by rw[e];exact aw h1))];exact lH hn h1 h2
def qY{cv:Bool}{aH:List (Nat×OC)}{aU:List Ob}{ν:List Nat}{f:Nat->C}{S:bQ}{F:Nat->Value->Prop}{loc:Nat->Loc}:∀{os:List Ob} {x:PD os} {ns ms:List Nat} {m:Nat} {oc:OC},fE cv aH aU ν os ns=some x->Ro eT X S F os x (ns.map loc)->ns.length=ms.length->
  look (mQ f os x ms) m=some oc->∃(i n:Nat) (o:Ob) (y:OD o) (oc0:OC),ns[i]?=some n/\ms[i]?=some m/\os[i]?=some o/\look aH n=some oc0/\lf cv aH aU ν o oc0=some y/\oc=rG f o y/\Ux eT X S F o y (loc n):=by
 intro os;induction os with
 |nil=>intro x ns ms m oc _ _ _ h;simp[mQ,look]at h
 |cons o r ih=>
  intro x ns ms m oc hg hR hl h;cases ns with
  |nil=>simp[fE]at hg
  |cons n ns=>
   cases ms with
   |nil=>simp at hl
   |cons k ms=>
    simp only[fE]at hg;split at hg
    case h_2=>cases hg
    rename_i oc0 hob;split at hg
    case h_2=>cases hg
    rename_i x0 y0 h1 h2;cases hg;simp only[mQ,cV]at h;split at h
    ·rename_i e
     cases h;exact⟨0,n,o,x0,oc0,rfl,by simp[e],rfl,hob,h1,rfl,hR.1⟩
    ·obtain⟨i,n',o',y',oc',k1,k2,k3,k4⟩:=ih h2 hR.2 (by simpa using hl) h
     exact⟨i+1,n',o',y',oc',by simpa using k1,by simpa using k2,by simpa using k3,k4⟩
def BQ{cv:Bool}{aH:List (Nat×OC)}{aU:List Ob}{ν:List Nat}{f:Nat->C}{o:Ob}{y:OD o}{oc:OC}(h:lf cv aH aU ν o oc=some y):(rG f o y).lo=oc.lo\/cv=true:=by
 cases o <;> cases oc <;> simp only[lf,reduceCtorEq]at h
 ·exact .inl rfl
 ·exact .inl rfl
 ·split at h
  ·exact .inr rfl
  ·cases h
 ·obtain⟨e,h3⟩:=qp h
  subst e;simp only at h3;subst h3;exact .inl rfl
 ·exact .inl rfl
def nt{cv:Bool}{aH:List (Nat×OC)}{aU:List Ob}{ν:List Nat}{o:Ob}{y:OD o}{oc:OC}(h:lf cv aH aU ν o oc=some y)(f:Nat->C):(∀T cls,o=.box T cls->∃cs,oc=.cells T cs)/\
  (∀k t,o=.ext k t->∃x,oc=.ext k t x)/\(∀k t,o=.row k t->cv=false->∃xs,oc=.bC t xs)/\((∀t,o≠.tok t)->cv=false->∀t xs,oc≠.tok t xs):=by
 refine⟨fun T cls e =>?_,fun k t e =>?_,fun k t e e2 =>?_,fun h1 h2 t xs e =>?_⟩
 ·subst e
  cases oc <;> simp only[lf,reduceCtorEq]at h;split at h
  ·rename_i hT;rw[ah hT];exact⟨_,rfl⟩
  ·cases h
 ·subst e
  cases oc <;> simp only[lf,reduceCtorEq]at h;split at h
  ·rename_i hT
   obtain⟨e,_⟩:=KX h;subst e;rw[ah hT];exact⟨_,rfl⟩
  ·cases h
 ·subst e;subst e2
  cases oc <;> simp only[lf,reduceCtorEq]at h
  ·obtain⟨e,_⟩:=qp h
   subst e;exact⟨_,rfl⟩
 ·subst e;subst h2
  cases o <;> simp only[lf,reduceCtorEq]at h;exact h1 _ rfl
def pr{cv:Bool}{aH:List (Nat×OC)}{aU:List Ob}{ν:List Nat}:∀{os:List Ob} {ns:List Nat} {x:PD os},fE cv aH aU ν os ns=some x->os.length=ns.length:=by
 intro os;induction os with
 |nil=>intro ns x h;cases ns with|nil=>rfl|cons=>simp[fE]at h
 |cons o r ih=>
  intro ns x h;cases ns with
  |nil=>simp[fE]at h
  |cons n ns=>
   simp only[fE]at h;split at h
   case h_2=>cases h
   split at h
   case h_2=>cases h
   rename_i h2;simp[ih h2]
def qD{f:Nat->C}:∀{os:List Ob} {x:PD os} {ms:List Nat} {m:Nat},os.length=ms.length->m∈ms->∃oc,look (mQ f os x ms) m=some oc:=by
 intro os;induction os with
 |nil=>intro x ms m h hm;cases ms with|nil=>simp at hm|cons=>simp at h
 |cons o r ih=>
  intro x ms m h hm;cases ms with
  |nil=>simp at h
  |cons k ms=>
   simp only[mQ,cV];by_cases e:k=m
   ·exact⟨_,by rw[if_pos e]⟩
   ·rw[if_neg e]
    rcases ag.1 hm with hm|hm
    ·exact(e hm.symm).elim
    ·exact ih (by simpa using h) hm
def sx:∀{l:List Nat} {i j n:Nat},nodupB l=true->l[i]?=some n->l[j]?=some n->i=j
 |[],_,_,_,_,h,_=>by simp at h
 |m :: r,0,0,_,_,_,_=>rfl
 |m :: r,0,j+1,n,hn,h1,h2=>by
  simp at h1 h2;subst h1;exact((pS hn).1 (aw h2)).elim
 |m :: r,i+1,0,n,hn,h1,h2=>by
  simp at h1 h2;subst h2;exact((pS hn).1 (aw h1)).elim
 |m :: r,i+1,j+1,n,hn,h1,h2=>by
  simp at h1 h2;rw[sx (pS hn).2 h1 h2]
def z8{a:Ob}{r:List Ob}(h:iv (a :: r)=true):tR a=true/\iv r=true:=by
 cases a <;> simp[iv,tR]at h ⊢ <;> exact h
def Cu:∀{l:List Ob} {i:Nat} {o:Ob},iv l=true->l[i]?=some o->tR o=true
 |[],_,_,_,h=>by simp at h
 |a :: r,0,o,hfl,h=>by simp at h;subst h;exact(z8 hfl).1
 |a :: r,i+1,o,hfl,h=>Cu (z8 hfl).2 (by simpa using h)
def abg{S S2:bQ}{F:Nat->Value->Prop}{f:Nat->C}{loc:Nat->Loc}(hNA:∀m t ys,S2.ob m=some (.tok t ys)->∀b∈(S2.loc m).bs,∀off,off<ys.length*t.size->¬S2.A b off)(hw:S2.w=S.w) :
  ∀{os:List Ob} {x:PD os} {ns ms:List Nat},(iv os=true\/∀b o,S2.A b o->S.A b o)->Ro eT X S F os x (ns.map loc)->nodupB ms=true->ns.length=ms.length->(∀n∈ms,S2.ob n=look (mQ f os x ms) n)->
   (∀(i n m:Nat),ns[i]?=some n->ms[i]?=some m->S2.loc m=loc n/\m<S2.next)->Laid eT S2 os x ms (ns.map loc):=by
 intro os;induction os with
 |nil=>
  intro x ns ms _ h _ hl _ _;have h:ns.map loc=[]:=h;cases ns with
  |nil=>cases ms with
   |nil=>exact⟨rfl,rfl⟩
   |cons=>simp at hl
  |cons=>simp at h
 |cons o r ih=>
  intro x ns ms hA h hnd hl hob hloc;cases ns with
  |nil=>exact h.elim
  |cons n ns=>
   cases ms with
   |nil=>simp at hl
   |cons m ms=>
    obtain⟨hm,hnd'⟩:=pS hnd;obtain⟨h1,h2⟩:=hloc 0 n m rfl rfl;have hA':iv r=true\/∀b o,S2.A b o->S.A b o:=by
     rcases hA with hA|hA
     ·left;cases o <;> simp[iv]at hA <;> first|exact hA.2|exact hA
     ·exact .inr hA
    refine⟨⟨h1,h2,?_⟩,ih hA' h.2 hnd' (by simpa using hl) (fun k hk =>?_) (fun i a b ha hb=>hloc (i+1) a b (by simpa using ha) (by simpa using hb))⟩
    ·cases o with
     |box T cls=>obtain⟨b,vs,k1,_⟩:=h.1;exact⟨b,k1⟩
     |row kp t=>rcases h.1 with⟨_,⟨a,ha⟩,_⟩|⟨b,vs,T,cap,ha,_⟩ <;> exact⟨_,_,_,ha⟩
     |tok t=>
      have hobm:S2.ob m=some (.tok t x.1):=by rw[hob m (by simp)];simp[mQ,cV,rG]
      refine⟨?_,fun ys hy=>by rw[hobm]at hy;cases hy;rfl⟩;refine Yq (X:=X) (Dy.to (X:=X) (l:=loc n) hw ?_ h.1) fun b hb off ho=>hNA m t x.1 hobm b (by rw[h1];exact hb) off ho
      rcases hA with hA|hA
      ·left;simp[iv]at hA;exact hA.1
      ·exact .inr hA
     |ext k t=>
      cases k with
      |zero=>
       have hd:=X.deep.1 h.1;obtain⟨e,s,rfl,_⟩:=uB hd;obtain⟨_,_,v,hs,hv,_⟩:=hd;exact⟨v,hs,hv⟩
      |succ k=>
       show z6 (loc n).v=(loc n).v;cases k with
       |zero=>obtain⟨e,_,b,es,gv,hm⟩:=X.map.1 h.1;rw[hm.lv];rfl
       |succ k=>obtain⟨a,ha⟩:=X.ptr (by omega) h.1;rw[ha];rfl
    ·rw[hob k (by simp[hk])]
     simp only[mQ,cV];rw[if_neg (fun e=>hm (by rw[e];exact hk))]
def J8{cv:Bool}{aU:List Ob}{ν:List Nat}{x:PD aU}{O:aK}{st:St}{loc:Nat->Loc}{w:World}(g:Good eT X (aC O st loc w))(hx:fE cv st.aH aU ν aU ν=some x)
  (hp:∀p∈jX aU x st.aH aU ν,p)(hnd:nodupB ν=true)
  {O2:aK}{ν2:List Nat}{rest:List (Nat×OC)}{locR:Nat->Loc}{st2:St}(hnd2:nodupB ν2=true)(hlen:ν.length=ν2.length)
  (hobjs:st2.aH=mQ (iw aU x ν2) aU x ν2++rest)(hlt:∀n∈ν2,n<st2.next)
  (hO2:∀n∈ν,∀b∈(loc n).bs,∀off,¬O2 b off)
  (hD:∀n∈ν,∀b∈(loc n).bs,∀m oc,look rest m=some oc->m∉ν2->b∉(locR m).bs)
  (hR:∀m oc,look rest m=some oc->m∉ν2->m<st2.next/\OR eT X (aC O2 st2 (fU ν2 (ν.map loc) locR) w) (locR m) oc)
  (hR2:∀m m' oc oc' b,look rest m=some oc->look rest m'=some oc'->m∉ν2->m'∉ν2->b∈(locR m).bs->b∈(locR m').bs->m=m')
  (hR3:∀m oc b off,look rest m=some oc->m∉ν2->b∈(locR m).bs->¬O2 b off)
  (hA:iv aU=true\/∀b o,(aC O2 st2 (fU ν2 (ν.map loc) locR) w).A b o->(aC O st loc w).A b o)
  (hGl:∀b∈X.Hi,¬(aC O2 st2 (fU ν2 (ν.map loc) locR) w).owns b) :
  Good eT X (aC O2 st2 (fU ν2 (ν.map loc) locR) w)/\Laid eT (aC O2 st2 (fU ν2 (ν.map loc) locR) w) aU x ν2 (ν.map loc):=by
 have hobs:=qX (X:=X) g hx hx hp;have hol:=pr hx;generalize hf:iw aU x ν2=f at hobjs;have hob:∀m oc,(aC O2 st2 (fU ν2 (ν.map loc) locR) w).ob m=some oc->
   (∃(i n:Nat) (o:Ob) (y:OD o) (oc0:OC),ν[i]?=some n/\ν2[i]?=some m/\look st.aH n=some oc0/\lf cv st.aH aU ν o oc0=some y/\oc=rG f o y/\Ux eT X (aC O st loc w) (GH (ν.map loc)) o y (loc n)/\
    fU ν2 (ν.map loc) locR m=loc n/\aU[i]?=some o)\/
   (look rest m=some oc/\m∉ν2/\fU ν2 (ν.map loc) locR m=locR m):=by
  intro m oc h;simp only[aC,hobjs]at h;rw[dZ]at h;split at h
  ·rename_i oc' h'
   cases h;obtain⟨i,n,o,y,oc0,k1,k2,k3,k4,k5,k6,k7⟩:=qY hx hobs hlen h';exact .inl ⟨i,n,o,y,oc0,k1,k2,k4,k5,k6,k7,lH hnd2 k2 (by simp[k1]),k3⟩
  ·rename_i h'
   have:m∉ν2:=fun hm=>by
    obtain⟨oc1,h1⟩:=qD (f:=f) (x:=x) (by omega) hm;rw[h1]at h';cases h'
   exact .inr ⟨h,this,nr this⟩
 have hap:∀m m' oc oc' b,(aC O2 st2 (fU ν2 (ν.map loc) locR) w).ob m=some oc->(aC O2 st2 (fU ν2 (ν.map loc) locR) w).ob m'=some oc'->
   b∈(fU ν2 (ν.map loc) locR m).bs->b∈(fU ν2 (ν.map loc) locR m').bs->m=m':=by
  intro m m' oc oc' b h1 h2 h3 h4;rcases hob m oc h1 with⟨i,n,o,y,oc0,k1,k2,k4,_,_,_,k8,_⟩|⟨k1,k2,k3⟩ <;> rcases hob m' oc' h2 with⟨i',n',o',y',oc0',j1,j2,j4,_,_,_,j8,_⟩|⟨j1,j2,j3⟩
  ·rw[k8]at h3;rw[j8]at h4
   have e:=g.apart n n' oc0 oc0' b k4 j4 h3 h4;subst e;have:=sx hnd k1 j1;subst this;rw[k2]at j2;cases j2;rfl
  ·rw[k8]at h3;rw[j3]at h4
   exact(hD n (aw k1) b h3 m' oc' j1 j2 h4).elim
  ·rw[k3]at h3;rw[j8]at h4
   exact(hD n' (aw j1) b h4 m oc k1 k2 h3).elim
  ·rw[k3]at h3;rw[j3]at h4
   exact hR2 m m' oc oc' b k1 j1 k2 j2 h3 h4
 have hout:∀m oc b off,(aC O2 st2 (fU ν2 (ν.map loc) locR) w).ob m=some oc->b∈(fU ν2 (ν.map loc) locR m).bs->¬O2 b off:=by
  intro m oc b off h1 h2;rcases hob m oc h1 with⟨i,n,o,y,oc0,k1,k2,k4,_,_,_,k8,_⟩|⟨k1,k2,k3⟩
  ·rw[k8]at h2;exact hO2 n (aw k1) b h2 off
  ·rw[k3]at h2;exact hR3 m oc b off k1 k2 h2
 have hNA:∀m t ys,(aC O2 st2 (fU ν2 (ν.map loc) locR) w).ob m=some (.tok t ys)->∀b∈((aC O2 st2 (fU ν2 (ν.map loc) locR) w).loc m).bs,∀off,off<ys.length*t.size->¬(aC O2 st2 (fU ν2 (ν.map loc) locR) w).A b off:=by
  rintro m t ys h1 b hb off ho (h2|⟨m',oc',h2,h3,h4⟩)
  ·exact hout m _ b off h1 hb h2
  ·have:=hap m m' _ oc' b h1 h2 hb h3
   subst this;rw[h1]at h2;cases h2;simp only[OC.lo]at h4;omega
 have hlaid:Laid eT (aC O2 st2 (fU ν2 (ν.map loc) locR) w) aU x ν2 (ν.map loc):=by
  refine abg (X:=X) (S:=aC O st loc w) (f:=f) hNA rfl hA hobs hnd2 hlen (fun n hn =>?_) (fun i n m h1 h2=>⟨lH hnd2 h2 (by simp[h1]),hlt m (aw h2)⟩);show look st2.aH n=_;rw[hobjs,dZ];obtain⟨oc1,h1⟩:=qD (f:=f) (x:=x) (by omega) hn;rw[h1]
 refine⟨⟨fun m oc h =>?_,fun m m' oc oc' b h1 h2 h3 h4=>hap m m' oc oc' b h1 h2 h3 h4,fun m oc b off h1 h2=>hout m oc b off h1 h2,g.lU.1,hGl⟩,hlaid⟩;rcases hob m oc h with⟨i,n,o,y,oc0,k1,k2,k4,k5,k6,k7,k8,k9⟩|⟨k1,k2,k3⟩
 ·refine⟨hlt m (aw k2),?_⟩
  show OR _ _ _ (fU ν2 (ν.map loc) locR m) oc;rw[k8,k6];refine acO (S:=aC O st loc w) (S':=aC O2 st2 (fU ν2 (ν.map loc) locR) w) rfl (fun k v hk=>by rw[<-hf];exact z7 hlaid hk) ?_ k7;rcases hA with hA|hA
  ·left
   exact Cu hA k9
  ·exact .inr hA
 ·obtain⟨h1,h2⟩:=hR m oc k1 k2
  refine⟨h1,?_⟩;show OR _ _ _ (fU ν2 (ν.map loc) locR m) oc;rw[k3];exact h2
def upto:Nat->Nat->List Nat
 |_,0=>[]
 |k,m+1=>k :: upto (k+1) m
def aaJ(aU:List Ob)(cls:List Cl)(vs:List dC)(aH:List (Nat×OC))(aem:List (Nat×Nat)):Option (List Nat):=
 match Uv cls vs aem with
 |some as1=>match BO aH 0 aU as1 with
  |some as2=>zZ as2 0 aU.length
  |none=>none
 |none=>none
def DA:∀(m k i:Nat),i<m->(upto k m)[i]?=some (k+i)
 |m+1,k,0,_=>by simp[upto]
 |m+1,k,i+1,h=>by
  simp only[upto,List.getElem?_cons_succ];rw[DA m (k+1) i (by omega)];congr 1;omega
def xm:∀{m k n:Nat},n∈upto k m->k<=n/\n<k+m
 |0,k,n,h=>by simp[upto]at h
 |m+1,k,n,h=>by
  simp only[upto,ag]at h;rcases h with h|h
  ·omega
  ·have:=xm h;omega
def xn:∀(m k:Nat),(upto k m).length=m
 |0,_=>rfl
 |m+1,k=>by simp[upto,xn m]
def mv:∀(m k:Nat),nodupB (upto k m)=true
 |0,_=>rfl
 |m+1,k=>by
  simp only[upto,nodupB,mv m,eo,bd];rw[Bool.eq_false_iff];intro h;have:=xm (Dz.1 h);omega
def lI{cv:Bool}{aH:List (Nat×OC)}{aU:List Ob}{ν:List Nat}:∀{os:List Ob} {ns:List Nat} {x:PD os} {n:Nat},fE cv aH aU ν os ns=some x->n∈ns->
  ∃o oc y,o∈os/\look aH n=some oc/\lf cv aH aU ν o oc=some y:=by
 intro os;induction os with
 |nil=>intro ns x n h hn;cases ns with|nil=>simp at hn|cons=>simp[fE]at h
 |cons o r ih=>
  intro ns x n h hn;cases ns with
  |nil=>simp at hn
  |cons k ns=>
   simp only[fE]at h;split at h
   case h_2=>cases h
   rename_i oc hob;split at h
   case h_2=>cases h
   rename_i x0 y0 h1 h2;rcases ag.1 hn with e|hn
   ·subst e;exact⟨o,oc,x0,by simp,hob,h1⟩
   ·obtain⟨o',oc',y',k1,k2⟩:=ih h2 hn
    exact⟨o',oc',y',by simp[k1],k2⟩
end
inductive Ex where
 |normal
 |exit (n:Nat)
 |ret
def J9:(cls:List Cl)->CD cls
 |[]=>()
 |.d t :: r=>(cB t,J9 r)
 |.obj _ :: r=>J9 r
 |.iX :: r=>J9 r
def adG:(o:Ob)->OD o
 |.box _ cls=>J9 cls
 |.row _ _=>[]
 |.tok _=>[]
 |.ext _ t=>cB t
def Rq:(os:List Ob)->PD os
 |[]=>()
 |o :: r=>(adG o,Rq r)
structure lW:Type 1 where
 X:Type
 inv:X->Prop
 bF:X->Nat
 aY:X->List (Nat×SV)
 aH:X->List (Nat×OC):=fun _=>[]
 keep:List Nat
 gS:List Nat:=[]
 eA:List Nat:=[]
 aU:List Ob:=[]
 refs:List (Nat×Nat):=[]
 pd:X->PD aU:=fun _=>Rq aU
@[reducible] def sI(x:Int):SV:=.s (.one (.d (.int .i64) x))
@[reducible] def sB(x:Bool):SV:=.s (.one (.d .bool x))
@[reducible] def sS(x:List UInt8):SV:=.s (.one (.d .str x))
@[reducible] def sD(t:Ty)(x:D t):SV:=.s (.one (.d t x))
abbrev cU:=List (Nat×(St->lW))
def xp:C->C->Prop
 |.lit b,.d .bool c=>b=c
 |.d t x,.d t' y=>match h:Ty.beq t t' with
  |true=>cX h x=y
  |false=>False
 |.app t xs n,.app t' ys m=>match h:Ty.beq (.slice t) (.slice t'),ab n m with
  |true,true=>cX h (a:=.slice t) (b:=.slice t') xs=ys
  |_,_=>False
 |a,b=>a=b
def oP:SV->SV->Prop
 |.s (.one a),.s (.one b)=>xp a b
 |a,b=>a=b
def Aa:List C->List C->Prop
 |[],[]=>True
 |a :: aem,b :: bs=>xp a b/\Aa aem bs
 |_,_=>False
def oQ:OC->OC->Prop
 |.cells T cs,.cells T' cs'=>match ab T T' with
  |true=>Aa cs cs'
  |false=>False
 |.bC t xs,.bC t' ys=>match h:Ty.beq (.slice t) (.slice t')with
  |true=>cX h (a:=.slice t) (b:=.slice t') xs=ys
  |false=>False
 |.arr t xs,.arr t' ys=>match h:Ty.beq (.slice t) (.slice t')with
  |true=>cX h (a:=.slice t) (b:=.slice t') xs=ys
  |false=>False
 |.tok t xs,.tok t' ys=>match h:Ty.beq (.slice t) (.slice t')with
  |true=>cX h (a:=.slice t) (b:=.slice t') xs=ys
  |false=>False
 |.ext k t x,.ext k' t' y=>match ab k k',h:Ty.beq t t' with
  |true,true=>cX h x=y
  |_,_=>False
 |.iter cs seen cl,.iter cs' seen' cl'=>Aa cs cs'/\seen=seen'/\cl=cl'
 |_,_=>False
def nT(st:St):List (Nat×SV)->Prop
 |[]=>True
 |(n,v) :: r=>match look st.env n with
  |some u=>oP u v/\nT st r
  |none=>False
def nU(st:St):List (Nat×OC)->Prop
 |[]=>True
 |(n,v) :: r=>match look st.aH n with
  |some u=>oQ u v/\nU st r
  |none=>False
def pw(st:St):List Nat->List (Nat×SV)
 |[]=>[]
 |t :: r=>match look st.env t with
  |some v=>(t,v) :: pw st r
  |none=>pw st r
def jM(st:St):List Nat->List (Nat×OC)
 |[]=>[]
 |t :: r=>match look st.aH t with
  |some v=>(t,v) :: jM st r
  |none=>jM st r
def cN(an:lW)(st:St)(x:an.X):St:=
 {env:=an.aY x++pw st an.keep,aH:=an.aH x++jM st an.gS,next:=st.next}
def eR(l:List Oper):List Nat:=l.filterMap (·.dst)
def writes(anns:cU):Nat->Code->List Nat
 |_,.region _ ops _=>eR ops.toList
 |k,.seq a b=>writes anns k a++writes anns k b
 |k,.cond _ a b=>writes anns k a++writes anns k b
 |_,.block id b=>writes anns id b
 |k,.loop b=>match look anns (k+200000)with
  |some _=>allM :: writes anns k b
  |none=>writes anns k b
 |_,_=>[]
def xq(n:Nat):List Nat->Bool
 |[]=>false
 |m :: r=>match ab m n with
  |true=>true
  |false=>xq n r
def uL(l:List Nat)(W:List Nat):Bool:=match l with
 |[]=>true
 |_ =>!(xq allM W)&&l.all fun n =>!(xq n W)
def lJ(k:Nat):List Nat->Bool
 |[]=>true
 |n :: r=>aq n k&&lJ k r
def qZ(k:Nat):C->Bool
 |.app _ _ n|.bC n|.qk n|.gA n|.xd n _|.ref n _|.tH n|.nx n _ _ _|.qK n _ _ _=>aq n k
 |.fn _ caps=>lJ k caps
 |_=>true
def qE(k:Nat):List C->Bool
 |[]=>true
 |c :: r=>qZ k c&&qE k r
def KZ(k:Nat):dC->Bool
 |.one c=>qZ k c
 |.agg cs=>qE k cs
def lg(k:Nat):List (Nat×SV)->Bool
 |[]=>true
 |(_,.s v) :: r=>KZ k v&&lg k r
 |(_,.oJ _) :: _=>false
def PT(k:Nat):OC->Bool
 |.cells _ cs=>qE k cs
 |.iter cs _ _=>qE k cs
 |_=>true
def kS(k:Nat):List (Nat×OC)->Bool
 |[]=>true
 |(n,oc) :: r=>aq n k&&PT k oc&&kS k r
def oR(env:List (Nat×SV)):List Nat->Bool
 |[]=>true
 |t :: r=>match look env t with
  |some _=>oR env r
  |none=>false
def oS(W:List Nat):List (Nat×SV)->Bool
 |[]=>true
 |(n,_) :: r=>xq n W&&oS W r
def ES(env:List (Nat×SV)):List Nat->List Nat
 |[]=>[]
 |t :: r=>match look env t with
  |some (.s _)=>t :: ES env r
  |_=>ES env r
def sy(eA:List Nat):List (Nat×OC)->List Nat
 |[]=>[]
 |(n,_) :: r=>match xq n eA with
  |true=>sy eA r
  |false=>n :: sy eA r
def BR(st:St)(an:lW):lW:=
 {an with keep:=ES st.env an.keep,gS:=match an.gS with
  |[]=>sy an.eA st.aH
  |l=>l}
def bG(ty:Ty)(st:St)(t:Nat):D ty:=
 match look st.env t with
 |some (.s c)=>match sP ty c with
  |some x=>x
  |none=>cB ty
 |_=>cB ty
def rowOf(ty:Ty)(st:St)(n:Nat):List (D ty):=
 match look st.aH n with
 |some (.bC t xs)=>match h:Ty.beq (.slice t) (.slice ty)with
  |true=>cX h (a:=.slice t) xs
  |false=>[]
 |some (.arr t xs)=>match h:Ty.beq (.slice t) (.slice ty)with
  |true=>cX h (a:=.slice t) xs
  |false=>[]
 |some (.tok t xs)=>match h:Ty.beq (.slice t) (.slice ty)with
  |true=>cX h (a:=.slice t) xs
  |false=>[]
 |_=>[]
def aT(st:St)(t:Nat):Nat:=
 match look st.env t with
 |some (.s (.one (.bC n)))=>n
 |some (.s (.one (.qk n)))=>n
 |some (.s (.one (.gA n)))=>n
 |some (.s (.one (.xd n _)))=>n
 |some (.s (.one (.ref n _)))=>n
 |some (.s (.one (.app _ _ n)))=>n
 |_=>0
def iy(st:St)(n k:Nat):Nat:=
 match look st.aH n with
 |some (.cells _ cs)=>match cs[k]? with
  |some (.bC m)=>m
  |some (.ref m _)=>m
  |some (.app _ _ m)=>m
  |some (.gA m)=>m
  |some (.xd m _)=>m
  |_=>0
 |_=>0
def Rr(ty:Ty)(st:St)(n k:Nat):D ty:=
 match look st.aH n with
 |some (.cells _ cs)=>match cs[k]? with
  |some c=>match uz ty c with
   |some x=>x
   |none=>cB ty
  |none=>cB ty
 |_=>cB ty
def abh(_:Nat)(_:St):Prop:=False
def mX(an:lW)(st st':St):VC:=
 match oR st'.env an.keep with
 |true =>.leaf (∃x',an.inv x'/\nT st' (an.aY x')/\nU st' (an.aH x'++jM st an.gS))
 |false =>.ff
def aaK(st:St):List (Nat×Nat)->Option (List (Nat×Nat))
 |[]=>some []
 |(t,k) :: r=>match look st.env t,aaK st r with
  |some (.s (.one c)),some aem=>match aaI c with
   |some n=>match look aem k with
    |some _=>some aem
    |none=>some ((k,n) :: aem)
   |none=>none
  |_,_=>none
def Ab(st:St)(an:lW):Option (List Nat):=
 match aaK st an.refs with
 |some as1=>match BO st.aH 0 an.aU as1 with
  |some as2=>zZ as2 0 an.aU.length
  |none=>none
 |none=>none
def wx(st:St)(an:lW)(ν:List Nat):List (Nat×Nat)->Bool
 |[]=>true
 |(t,k) :: r=>(match look st.env t with
  |some (.s (.one c))=>lO false st.aH an.aU ν k c
  |_=>false)&&wx st an ν r
def BS(st:St)(an:lW)(y:PD an.aU):List (Nat×Nat)->List Prop
 |[]=>[]
 |(t,k) :: r=>(match look st.env t with
  |some (.s (.one c))=>vt an.aU y k c
  |_=>[])++BS st an y r
def wy(an:lW)(y:PD an.aU)(us:List Nat):List (Nat×Nat)->List (Nat×SV)
 |[]=>[]
 |(t,k) :: r=>(t,.s (.one (iw an.aU y us k))) :: wy an y us r
def s9(an:lW)(st:St)(x:an.X):List (Nat×SV):=an.aY x++pw st an.keep
def nD(an:lW)(st:St)(x:an.X):List (Nat×OC):=an.aH x++jM st an.gS
def eN(an:lW)(st:St)(x:an.X):St:=
 {env:=wy an (an.pd x) (upto st.next an.aU.length) an.refs++s9 an st x,
  aH:=mQ (iw an.aU (an.pd x) (upto st.next an.aU.length)) an.aU (an.pd x) (upto st.next an.aU.length)++nD an st x,next:=st.next+an.aU.length}
def qF(ν:List Nat):List (Nat×OC)->Bool
 |[]=>true
 |(n,_) :: r =>!(pL n ν)&&qF ν r
def sA(keep:List Nat):List (Nat×Nat)->Bool
 |[]=>true
 |(t,_) :: r =>!(xq t keep)&&sA keep r
def pT(an:lW)(st:St)(W:List Nat)(x:an.X):Bool:=lg st.next (s9 an st x)&&(kS st.next (nD an st x)&&(oS W (an.aY x)&&sA an.keep an.refs))
def K0(st:St)(an:lW):lW:=
 {an with keep:=(ES st.env an.keep).filter (fun t=>sA [t] an.refs),gS:=match an.gS with
  |[]=>sy (an.eA++(match Ab st an with|some l=>l|none=>[])) st.aH
  |l=>l}
def ET(an:lW)(st st':St)(more:an.X->Prop):VC:=
 match Ab st' an with
 |some ν=>match nodupB ν&&(wx st' an ν an.refs),fE false st'.aH an.aU ν an.aU ν with
  |true,some y =>.leaf (KW (BS st' an y an.refs++jX an.aU y st'.aH an.aU ν++[∃x',an.inv x'/\more x'/\nT st' (an.aY x')/\nU st' (an.aH x'++jM st an.gS)/\(qF ν (nD an st x')=true/\y=an.pd x')]))
  |_,_ =>.ff
 |none =>.ff
def BT(cx:Cx)(ops:Array Oper)(draw:Bool)(st:St)(K:St->VC):VC:=
 match draw with
 |false=>J4 cx ops.toList ops.toList st K
 |true=>match xg ops with
  |true=>acF cx ops st fun st'=>K (canon st.next (eR ops.toList) st')
  |false =>.ff
def oT:Code->Nat->Nat
 |.region id _ _,_=>id
 |.seq a b,d=>oT a (oT b d)
 |.cond _ a b,d=>oT a (oT b d)
 |.block _ b,d=>oT b d
 |.loop b,d=>oT b d
 |_,d=>d
def vc(cx:Cx)(anns:cU):Code->Nat->St->(Ex->St->VC)->VC
 |.skip,_,st,K=>K .normal st
 |.region id ops draw,_,st,K=>match(look anns (id+300000)).map (fun f=>BR st (f st))with
  |none=>BT cx ops draw st (K .normal)
  |some an=>match uL an.keep (eR ops.toList)with
   |true =>.both (BT cx ops draw st (mX an st))
    (.all an.X fun x =>.imp (an.inv x) (match lg st.next (cN an st x).env&&(kS st.next (cN an st x).aH&&oS (eR ops.toList) (an.aY x))with
     |true=>K .normal (cN an st x)
     |false =>.ff))
   |false =>.ff
 |.seq a b,cur,st,K=>vc cx anns a cur st fun e st'=>match e with
  |.normal=>vc cx anns b cur st' K
  |e=>K e st'
 |.cond c a b,cur,st,K=>match(look anns (oT a (oT b 0)+400000)).map (fun f=>BR st (f st))with
  |none=>match eZ st.env c with
   |.lit true=>vc cx anns a cur st K
   |.lit false=>vc cx anns b cur st K
   |.d .bool g =>.ite g (vc cx anns a cur st K) (vc cx anns b cur st K)
   |_ =>.ff
  |some an=>match uL an.keep (writes anns cur (.cond c a b))with
   |true =>.both (match eZ st.env c with
    |.lit true=>vc cx anns a cur st fun e st'=>match e with
     |.normal=>mX an st st'
     |e=>K e st'
    |.lit false=>vc cx anns b cur st fun e st'=>match e with
     |.normal=>mX an st st'
     |e=>K e st'
    |.d .bool g =>.ite g (vc cx anns a cur st fun e st'=>match e with
     |.normal=>mX an st st'
     |e=>K e st') (vc cx anns b cur st fun e st'=>match e with
     |.normal=>mX an st st'
     |e=>K e st')
    |_ =>.ff)
    (.all an.X fun x =>.imp (an.inv x) (match lg st.next (cN an st x).env&&(kS st.next (cN an st x).aH&&oS (writes anns cur (.cond c a b)) (an.aY x))with
     |true=>K .normal (cN an st x)
     |false =>.ff))
   |false =>.ff
 |.block id b,_,st,K=>match(look anns (id+100000)).map (fun f=>BR st (f st))with
  |none=>vc cx anns b id st fun e st'=>match e with
   |.exit i=>match ab i id with
    |true=>K .normal st'
    |false=>K (.exit i) st'
   |e=>K e st'
  |some an=>match uL an.keep (writes anns id b)with
   |true =>.both (vc cx anns b id st fun e st'=>match e with
    |.exit i=>match ab i id with
     |true=>mX an st st'
     |false=>K (.exit i) st'
    |.normal=>mX an st st'
    |.ret=>K .ret st')
    (.all an.X fun x =>.imp (an.inv x) (match lg st.next (cN an st x).env&&(kS st.next (cN an st x).aH&&oS (writes anns id b) (an.aY x))with
     |true=>K .normal (cN an st x)
     |false =>.ff))
   |false =>.ff
 |.loop b,cur,st,K=>match look anns (cur+200000)with
  |none=>match(look anns cur).map (fun f=>BR st (f st))with
   |some an=>match uL an.keep (writes anns cur b)with
    |true =>.and (∃x,an.inv x/\nT st (an.aY x)/\nU st (an.aH x))
      (.all an.X fun x =>.imp (an.inv x) (match lg st.next (cN an st x).env&&(kS st.next (cN an st x).aH&&oS (writes anns cur b) (an.aY x))with
       |true=>vc cx anns b cur (cN an st x) fun e st'=>match e with
        |.normal=>match oR st'.env an.keep with
         |true =>.leaf (∃x',an.inv x'/\an.bF x'<an.bF x/\nT st' (an.aY x')/\nU st' (an.aH x'++jM st an.gS))
         |false =>.ff
        |e=>K e st'
       |false =>.ff))
    |false =>.ff
   |none =>.leaf (abh cur st)
  |some f=>match K0 st (f st)with
   |an=>match uL an.keep (writes anns cur b)with
    |true =>.both (ET an st st fun _=>True)
      (.all an.X fun x =>.imp (an.inv x) (match pT an st (writes anns cur b) x with
       |true=>vc cx anns b cur (eN an st x) fun e st'=>match e with
        |.normal=>match oR st'.env an.keep with
         |true=>ET an st st' fun x'=>an.bF x'<an.bF x
         |false =>.ff
        |e=>K e st'
       |false =>.ff))
    |false =>.ff
 |.exit id,_,st,K=>K (.exit id) st
 |.ret,_,st,K=>K .ret st
 |_,_,_,_ =>.ff
section
variable{X:Ext}{P:Program}{cx:Cx}
def Hx{S:bQ}{a b:C}{v:Value}(h:xp a b)(hv:CR cx.eT S a v):CR cx.eT S b v:=by
 unfold xp at h;split at h
 ·subst h;exact fO.2 hv
 ·split at h
  ·rename_i hb
   subst h;exact nz hb _ hv
  ·exact h.elim
 ·split at h
  ·rename_i t xs n t' ys m _ hb hn
   have hn:=ah hn;subst hn;have:t=t':=by have:=Ty.eq_of_beq hb;cases this;rfl
   subst this;rw[im]at h;subst h;exact hv
  ·exact h.elim
 ·subst h;exact hv
def xr{S:bQ}{a b:SV}{v:Value}(h:oP a b)(hv:eL cx.eT S a v):eL cx.eT S b v:=by
 unfold oP at h;split at h
 ·exact Hx h hv
 ·subst h;exact hv
def EU{S:bQ}:∀{aem bs:List C} {vs:List Value},Aa aem bs->fD cx.eT S aem vs->fD cx.eT S bs vs:=by
 intro aem;induction aem with
 |nil=>
  intro bs vs h hv;cases bs with
  |nil=>exact hv
  |cons=>exact h.elim
 |cons a aem ih=>
  intro bs vs h hv;cases bs with
  |nil=>exact h.elim
  |cons b bs=>
   cases hv with
   |cons h1 h2 h3=>exact .cons (Hx h.1 h1) h2 (ih h.2 h3)
def xu{S:bQ}{l:Loc}{a b:OC}(h:oQ a b)(hv:OR cx.eT X S l a):OR cx.eT X S l b/\bD l l a b/\a.lo=b.lo:=by
 unfold oQ at h;split at h
 ·split at h
  ·rename_i hT
   have:=ah hT;subst this;obtain⟨b,vs,h1,h2,h3,h4⟩:=hv;exact⟨⟨b,vs,h1,h2,h3,EU h h4⟩,rfl,rfl⟩
  ·exact h.elim
 ·split at h
  ·rename_i t xs t' ys hb
   have:t=t':=by have:=Ty.eq_of_beq hb;cases this;rfl
   subst this;rw[im]at h;subst h;exact⟨hv,rfl,rfl⟩
  ·exact h.elim
 ·split at h
  ·rename_i t xs t' ys hb
   have:t=t':=by have:=Ty.eq_of_beq hb;cases this;rfl
   subst this;rw[im]at h;subst h;exact⟨hv,rfl,rfl⟩
  ·exact h.elim
 ·split at h
  ·rename_i t xs t' ys hb
   have:t=t':=by have:=Ty.eq_of_beq hb;cases this;rfl
   subst this;rw[im]at h;subst h;exact⟨hv,⟨rfl,ai _,fun _=>rfl⟩,rfl⟩
  ·exact h.elim
 ·split at h
  ·rename_i k t x k' t' y hk hb
   have:=ah hk;subst this;have:=Ty.eq_of_beq hb;subst this;rw[lA]at h;subst h;exact⟨hv,⟨rfl,rfl⟩,rfl⟩
  ·exact h.elim
 ·obtain⟨h1,rfl,rfl⟩:=h
  obtain⟨b,m,c,sn,k1,k2,k3,k4,k5,k6⟩:=hv;exact⟨⟨b,m,c,sn,k1,k2,k3,EU h1 k4,k5,k6⟩,aa,rfl⟩
 ·exact h.elim
def xv{n:Nat}{l:List Nat}:xq n l=true↔n∈l:=by
 induction l with
 |nil=>simp[xq]
 |cons m r ih=>
  simp only[xq,ag];by_cases h:m=n
  ·subst h;simp[bh]
  ·rw[pN h];simp only[ih]
   constructor
   ·exact .inr
   ·rintro(h'|h')
    ·exact absurd h'.symm h
    ·exact h'
def uM{l W:List Nat}(h:uL l W=true):∀n∈l,allM∉W/\n∉W:=by
 intro n hn;unfold uL at h;split at h
 ·simp at hn
 ·simp only[ae,cf,bd]at h
  exact⟨fun hW=>by rw[xv.2 hW]at h;exact absurd h.1 (by decide),fun hW=>by have:=h.2 n hn;rw[xv.2 hW]at this;cases this⟩
def kT(cx:Cx)(X:Ext)(O:aK)(K:Ex->St->VC)(W:List Nat)(st:St)(S:bQ):Exit->Act->World->Prop
 |.normal,a,w=>ib cx X O (K .normal) W st S a w
 |.exit n,a,w=>ib cx X O (K (.exit n)) W st S a w
 |.ret,a,w=>ib cx X O (K .ret) W st S a w
 |_,_,_=>False
def kT.mono{O:aK}{K:Ex->St->VC}{W W':List Nat}{st st1:St}{S S1:bQ}{e:Exit}{a:Act}{w:World}(h:kT cx X O K W st1 S1 e a w)(ht:Tr S S1)(ha:pq W' st st1)(hW:∀n∈W,n∈W'):kT cx X O K W' st S e a w:=by
 have key:∀K:St->VC,ib cx X O K W st1 S1 a w->ib cx X O K W' st S a w:=by
  rintro K ⟨st',loc',k1,k2,k3,k4,k5⟩;exact⟨st',loc',k1,k2,ht.trans k3,k4,ha.trans fun hm t ht=>k5 (fun h=>hm (hW _ h)) t fun h=>ht (hW t h)⟩
 cases e with
 |normal=>exact key _ h
 |exit n=>exact key _ h
 |ret=>exact key _ h
 |goto l=>exact h
 |panic c=>exact h
 |outgrown=>exact h
def ji{st:St}{l:List Nat}{n:Nat}{v:SV}(h:look (pw st l) n=some v):n∈l/\look st.env n=some v:=by
 induction l with
 |nil=>simp[pw,look]at h
 |cons t r ih=>
  simp only[pw]at h;split at h
  ·rename_i u hu
   rw[cV]at h;by_cases e:t=n
   ·rw[if_pos e]at h;cases h;subst e;exact⟨by simp,hu⟩
   ·rw[if_neg e]at h;have:=ih h;exact⟨by simp[this.1],this.2⟩
  ·have:=ih h;exact⟨by simp[this.1],this.2⟩
def JR{st:St}{l:List Nat}{n:Nat}{v:OC}(h:look (jM st l) n=some v):look st.aH n=some v:=by
 induction l with
 |nil=>simp[jM,look]at h
 |cons t r ih=>
  simp only[jM]at h;split at h
  ·rename_i u hu
   rw[cV]at h;by_cases e:t=n
   ·rw[if_pos e]at h;cases h;subst e;exact hu
   ·rw[if_neg e]at h;exact ih h
  ·exact ih h
def od{st:St}{l:List (Nat×SV)}(h:nT st l):∀{n v},look l n=some v->∃u,look st.env n=some u/\oP u v:=by
 induction l with
 |nil=>intro n v hl;simp[look]at hl
 |cons p r ih=>
  obtain⟨m,x⟩:=p;intro n v hl;simp only[nT]at h;split at h
  ·rename_i u hu
   rw[cV]at hl;by_cases e:m=n
   ·rw[if_pos e]at hl;cases hl;subst e;exact⟨u,hu,h.1⟩
   ·rw[if_neg e]at hl;exact ih h.2 hl
  ·exact h.elim
def oe{st:St}{l:List (Nat×OC)}(h:nU st l):∀{n v},look l n=some v->∃u,look st.aH n=some u/\oQ u v:=by
 induction l with
 |nil=>intro n v hl;simp[look]at hl
 |cons p r ih=>
  obtain⟨m,x⟩:=p;intro n v hl;simp only[nU]at h;split at h
  ·rename_i u hu
   rw[cV]at hl;by_cases e:m=n
   ·rw[if_pos e]at hl;cases hl;subst e;exact⟨u,hu,h.1⟩
   ·rw[if_neg e]at hl;exact ih h.2 hl
  ·exact h.elim
def dM{a b:Nat}(h:aq a b=true):a<b:=nR h
def Rs{S S':bQ}(hO:∀b o v,¬S.A b o->S.w.cell? ⟨b,o,none⟩=some v->S'.w.cell? ⟨b,o,none⟩=some v/\¬S'.A b o)(hloc:S'.loc=S.loc)
  (hob:∀n oc,S'.ob n=some oc->∃oc0,S.ob n=some oc0/\bD (S.loc n) (S.loc n) oc0 oc){c:C}{v:Value}(hb:qZ S'.next c=true)(hv:CR cx.eT S c v):CR cx.eT S' c v:=by
 cases c with
 |lit b=>exact hv
 |d t x=>exact VR.frame hv hO
 |app t xs n=>
  obtain⟨h1,h2,h3⟩:=hv;refine⟨VR.frame h1 hO,dM hb,fun ys hy =>?_⟩;obtain⟨oc0,k1,k2⟩:=hob n _ hy;cases oc0 <;> simp[bD]at k2;obtain⟨rfl,k3⟩:=k2;obtain⟨m1,m2⟩:=h3 _ k1;rw[hloc];exact⟨by omega,fun e=>m2 (by omega)⟩
 |lz=>exact hv
 |iX=>exact hv
 |emp=>exact hv
 |bC n=>
  refine⟨dM hb,fun t xs e =>?_⟩;obtain⟨oc0,k1,k2⟩:=hob n _ e;cases oc0 <;> simp[bD]at k2;rw[hloc];exact hv.2 _ _ k1
 |qK n t lo len=>
  refine⟨dM hb,fun xs e =>?_⟩;obtain⟨oc0,k1,k2⟩:=hob n _ e;cases oc0 <;> simp[bD]at k2;subst k2;rw[hloc];exact hv.2 _ k1
 |qk n=>
  refine⟨dM hb,fun t xs e =>?_⟩;obtain⟨oc0,k1,k2⟩:=hob n _ e;cases oc0 <;> simp[bD]at k2;rw[hloc];exact hv.2 _ _ k1
 |gA n=>
  refine⟨dM hb,fun oc e hx =>?_⟩;obtain⟨oc0,k1,k2⟩:=hob n _ e;rw[hloc];exact hv.2 _ k1 (by cases oc0 <;> cases oc <;> first|rfl|exact k2.elim|cases hx)
 |xd n p=>
  refine⟨dM hb,fun t x e =>?_⟩;obtain⟨oc0,k1,k2⟩:=hob n _ e;cases oc0 <;> simp[bD]at k2;obtain⟨rfl,rfl⟩:=k2;rw[hloc];exact hv.2 _ _ k1
 |ref n off=>
  refine⟨dM hb,fun T cs e =>?_⟩;obtain⟨oc0,k1,k2⟩:=hob n _ e;cases oc0 <;> simp[bD]at k2;rw[hloc];exact hv.2 _ _ k1
 |tH n=>
  refine⟨dM hb,?_⟩;rcases hv.2 with hn|hn
  ·exact .inl hn
  ·refine .inr fun T cs e =>?_
   obtain⟨oc0,k1,k2⟩:=hob n _ e;cases oc0 <;> simp[bD]at k2;rw[hloc];exact hn _ _ k1
 |nx n t i off=>
  refine⟨dM hb,fun⟨xs,e⟩ =>?_⟩;rw[hloc];rcases e with e|e
  ·obtain⟨oc0,k1,k2⟩:=hob n _ e
   cases oc0 <;> simp[bD]at k2;subst k2;exact hv.2 ⟨_,.inl k1⟩
  ·obtain⟨oc0,k1,k2⟩:=hob n _ e
   cases oc0 <;> simp[bD]at k2;subst k2;exact hv.2 ⟨_,.inr k1⟩
 |ql t x=>
  obtain⟨b,o,us,rfl,h1,h2⟩:=hv;exact⟨b,o,us,rfl,h1.frame hO,h2.frame hO⟩
 |fn f caps=>
  obtain⟨rfl,h2⟩:=hv;refine⟨by rw[hloc],fun n hn=>⟨?_,fun t ys e =>?_⟩⟩
  ·have:∀l:List Nat,lJ S'.next l=true->n∈l->n<S'.next:=by
    intro l;induction l with
    |nil=>intro _ h;simp at h
    |cons m r ih=>
     intro h hm;simp only[lJ,ae]at h;rcases ag.1 hm with rfl|hm
     ·exact dM h.1
     ·exact ih h.2 hm
   exact this caps hb hn
  ·obtain⟨oc0,k1,k2⟩:=hob n _ e
   cases oc0 <;> simp[bD]at k2;exact(h2 n hn).2 _ _ k1
 |any=>trivial
def wz{k:Nat}:∀{l:List Nat} {n:Nat},lJ k l=true->n∈l->n<k
 |[],_,_,h=>by simp at h
 |m :: r,n,h,hn=>by
  simp only[lJ,ae]at h;rcases ag.1 hn with e|hn
  ·rw[e];exact dM h.1
  ·exact wz h.2 hn
def mY{S S':bQ}{k:Nat}(hrel:∀{c:C} {v:Value},qZ k c=true->CR cx.eT S c v->CR cx.eT S' c v):∀{cs:List C} {vs:List Value},qE k cs=true->fD cx.eT S cs vs->fD cx.eT S' cs vs:=by
 intro cs;induction cs with
 |nil=>intro vs _ h;cases h;exact .nil
 |cons c cs ih=>
  intro vs hb h;simp only[qE,ae]at hb;cases h with
  |cons h1 h2 h3=>exact .cons (hrel hb.1 h1) h2 (ih hb.2 h3)
def Cv{S S':bQ}(hO:∀b o v,¬S.A b o->S.w.cell? ⟨b,o,none⟩=some v->S'.w.cell? ⟨b,o,none⟩=some v/\¬S'.A b o){k:Nat}(hk:k<=S'.next)(hloc:∀n,n<k->S'.loc n=S.loc n)
  (hob:∀n oc,n<k->S'.ob n=some oc->∃oc0,S.ob n=some oc0/\bD (S.loc n) (S.loc n) oc0 oc){c:C}{v:Value}(hb:qZ k c=true)(hv:CR cx.eT S c v):CR cx.eT S' c v:=by
 cases c with
 |lit b=>exact hv
 |d t x=>exact VR.frame hv hO
 |app t xs n=>
  obtain⟨h1,h2,h3⟩:=hv;refine⟨VR.frame h1 hO,az (dM hb) hk,fun ys hy =>?_⟩;obtain⟨oc0,k1,k2⟩:=hob n _ (dM hb) hy;cases oc0 <;> simp[bD]at k2;obtain⟨rfl,k3⟩:=k2;obtain⟨m1,m2⟩:=h3 _ k1;rw[hloc n (dM hb)];exact⟨by omega,fun e=>m2 (by omega)⟩
 |lz=>exact hv
 |iX=>exact hv
 |emp=>exact hv
 |bC n=>
  refine⟨az (dM hb) hk,fun t xs e =>?_⟩;obtain⟨oc0,k1,k2⟩:=hob n _ (dM hb) e;cases oc0 <;> simp[bD]at k2;rw[hloc n (dM hb)];exact hv.2 _ _ k1
 |qK n t lo len=>
  refine⟨az (dM hb) hk,fun xs e =>?_⟩;obtain⟨oc0,k1,k2⟩:=hob n _ (dM hb) e;cases oc0 <;> simp[bD]at k2;subst k2;rw[hloc n (dM hb)];exact hv.2 _ k1
 |qk n=>
  refine⟨az (dM hb) hk,fun t xs e =>?_⟩;obtain⟨oc0,k1,k2⟩:=hob n _ (dM hb) e;cases oc0 <;> simp[bD]at k2;rw[hloc n (dM hb)];exact hv.2 _ _ k1
 |gA n=>
  refine⟨az (dM hb) hk,fun oc e hx =>?_⟩;obtain⟨oc0,k1,k2⟩:=hob n _ (dM hb) e;rw[hloc n (dM hb)];exact hv.2 _ k1 (by cases oc0 <;> cases oc <;> first|rfl|exact k2.elim|cases hx)
 |xd n p=>
  refine⟨az (dM hb) hk,fun t x e =>?_⟩;obtain⟨oc0,k1,k2⟩:=hob n _ (dM hb) e;cases oc0 <;> simp[bD]at k2;obtain⟨rfl,rfl⟩:=k2;rw[hloc n (dM hb)];exact hv.2 _ _ k1
 |ref n off=>
  refine⟨az (dM hb) hk,fun T cs e =>?_⟩;obtain⟨oc0,k1,k2⟩:=hob n _ (dM hb) e;cases oc0 <;> simp[bD]at k2;rw[hloc n (dM hb)];exact hv.2 _ _ k1
 |tH n=>
  refine⟨az (dM hb) hk,?_⟩;rcases hv.2 with hn|hn
  ·exact .inl hn
  ·refine .inr fun T cs e =>?_
   obtain⟨oc0,k1,k2⟩:=hob n _ (dM hb) e;cases oc0 <;> simp[bD]at k2;rw[hloc n (dM hb)];exact hn _ _ k1
 |nx n t i off=>
  refine⟨az (dM hb) hk,fun⟨xs,e⟩ =>?_⟩;rw[hloc n (dM hb)];rcases e with e|e
  ·obtain⟨oc0,k1,k2⟩:=hob n _ (dM hb) e
   cases oc0 <;> simp[bD]at k2;subst k2;exact hv.2 ⟨_,.inl k1⟩
  ·obtain⟨oc0,k1,k2⟩:=hob n _ (dM hb) e
   cases oc0 <;> simp[bD]at k2;subst k2;exact hv.2 ⟨_,.inr k1⟩
 |ql t x=>
  obtain⟨b,o,us,rfl,h1,h2⟩:=hv;exact⟨b,o,us,rfl,h1.frame hO,h2.frame hO⟩
 |fn f caps=>
  obtain⟨rfl,h2⟩:=hv;have hlt:∀n∈caps,n<k:=fun n hn=>wz hb hn
  refine⟨by rw[show(caps.map fun n=>(S.loc n).v)=(caps.map fun n=>(S'.loc n).v)from dd fun n hn=>by rw[hloc n (hlt n hn)]],fun n hn=>⟨az (hlt n hn) hk,fun t ys e =>?_⟩⟩;obtain⟨oc0,k1,k2⟩:=hob n _ (hlt n hn) e;cases oc0 <;> simp[bD]at k2;exact(h2 n hn).2 _ _ k1
 |any=>trivial
def bD.comp{l1 l2 l3:Loc}{a b c:OC}(h:bD l1 l2 a b)(h':bD l2 l3 b c):bD l1 l3 a c:=by
 cases a <;> cases b <;> simp[bD]at h <;> cases c <;> simp[bD]at h' ⊢
 all_goals (try(simp_all;done))
 obtain⟨rfl,a1,a2⟩:=h;obtain⟨rfl,b1,b2⟩:=h';refine⟨rfl,by omega,fun e =>?_⟩;rw[b2 (by omega),a2 (by omega)]
def vw{S S':bQ}(hrel:∀{c:C} {v:Value},qZ S'.next c=true->CR cx.eT S c v->CR cx.eT S' c v):∀{cs:List C} {vs:List Value},qE S'.next cs=true->fD cx.eT S cs vs->fD cx.eT S' cs vs:=by
 intro cs;induction cs with
 |nil=>intro vs _ h;cases h;exact .nil
 |cons c cs ih=>
  intro vs hb h;simp only[qE,ae]at hb;cases h with
  |cons h1 h2 h3=>exact .cons (hrel hb.1 h1) h2 (ih hb.2 h3)
def sR{k:Nat}:∀{l:List (Nat×SV)},lg k l=true->∀{n v},look l n=some v->∃v0,v=.s v0/\KZ k v0=true:=by
 intro l;induction l with
 |nil=>intro _ n v h;simp[look]at h
 |cons p r ih=>
  obtain⟨m,x⟩:=p;intro hb n v h;cases x with
  |oJ vs=>simp[lg]at hb
  |s v0=>
   simp only[lg,ae]at hb;rw[cV]at h;by_cases e:m=n
   ·rw[if_pos e]at h;cases h;exact⟨v0,rfl,hb.1⟩
   ·rw[if_neg e]at h;exact ih hb.2 h
def lP{k:Nat}:∀{l:List (Nat×OC)},kS k l=true->∀{n v},look l n=some v->n<k/\PT k v=true:=by
 intro l;induction l with
 |nil=>intro _ n v h;simp[look]at h
 |cons p r ih=>
  obtain⟨m,x⟩:=p;intro hb n v h;simp only[kS,ae]at hb;rw[cV]at h;by_cases e:m=n
  ·rw[if_pos e]at h;cases h;subst e;exact⟨dM hb.1.1,hb.1.2⟩
  ·rw[if_neg e]at h;exact ih hb.2 h
def xw{an:lW}{O:aK}{st st':St}{loc loc0:Nat->Loc}{w w0:World}{a:Act}(x:an.X)(g:Good cx.eT X (aC O st' loc w))(hA:gX cx (aC O st' loc w) st' a)(ht:Tr (aC O st loc0 w0) (aC O st' loc w))
  (he:∀n v,look (cN an st x).env n=some v->∃u,look st'.env n=some u/\oP u v)
  (ho:∀n v,look (cN an st x).aH n=some v->∃u,look st'.aH n=some u/\oQ u v)
  (hb1:lg st.next (cN an st x).env=true)(hb2:kS st.next (cN an st x).aH=true) :
  Good cx.eT X (aC O (cN an st x) loc w)/\gX cx (aC O (cN an st x) loc w) (cN an st x) a/\Tr (aC O st loc0 w0) (aC O (cN an st x) loc w):=by
 have hob:∀n oc,look (cN an st x).aH n=some oc->∃oc0,look st'.aH n=some oc0/\bD (loc n) (loc n) oc0 oc/\oc0.lo=oc.lo/\OR cx.eT X (aC O st' loc w) (loc n) oc:=by
  intro n oc h;obtain⟨u,hu,hs⟩:=ho n oc h;obtain⟨h1,h2,h3⟩:=xu hs (g.obj n u hu).2;exact⟨u,hu,h2,h3,h1⟩
 have hAsub:∀b o,(aC O (cN an st x) loc w).A b o->(aC O st' loc w).A b o:=by
  rintro b o (h|⟨n,oc,h1,h2,h3⟩)
  ·exact .inl h
  ·obtain⟨oc0,k1,_,k3,_⟩:=hob n oc h1
   exact .inr ⟨n,oc0,k1,h2,by rw[k3];exact h3⟩
 have hcell:∀b o v,¬(aC O st' loc w).A b o->w.cell? ⟨b,o,none⟩=some v->w.cell? ⟨b,o,none⟩=some v/\¬(aC O (cN an st x) loc w).A b o:=fun b o v h1 h2=>⟨h2,fun h=>h1 (hAsub b o h)⟩
 have hrel:∀{c:C} {v:Value},qZ st.next c=true->CR cx.eT (aC O st' loc w) c v->CR cx.eT (aC O (cN an st x) loc w) c v:=fun hb hv=>
  Rs (S:=aC O st' loc w) (S':=aC O (cN an st x) loc w) hcell rfl (fun n oc h=>let⟨oc0,k1,k2,_⟩:=hob n oc h;⟨oc0,k1,k2⟩) hb hv
 have hor:∀n oc,look (cN an st x).aH n=some oc->OR cx.eT X (aC O (cN an st x) loc w) (loc n) oc:=by
  intro n oc h;obtain⟨_,_,_,_,k4⟩:=hob n oc h;have hb:=(lP hb2 h).2;cases oc with
  |cells T cs=>
   obtain⟨b,vs,h1,h2,h3,h4⟩:=k4;exact⟨b,vs,h1,h2,h3,vw hrel hb h4⟩
  |bC t xs=>
   rcases k4 with k4|⟨b,vs,T,cap,h1,h2,h3,h4,h5,h6,h7⟩
   ·exact .inl k4
   ·exact .inr ⟨b,vs,T,cap,h1,h2,h3,h4,h5,h6,fun i y hy=>let⟨us,r1,r2⟩:=h7 i y hy;⟨us,r1.frame hcell,r2⟩⟩
  |arr t xs=>
   obtain⟨b,vs,T,h1,h2,h3,h4,h5⟩:=k4;exact⟨b,vs,T,h1,h2,h3,h4,fun i y hy=>let⟨us,r1,r2⟩:=h5 i y hy;⟨us,r1.frame hcell,r2⟩⟩
  |tok t xs=>
   rcases k4 with k4|⟨b,vs,T,cap,h1,h2,h3,h4,h5,h6,h7⟩
   ·exact .inl k4
   ·exact .inr ⟨b,vs,T,cap,h1,h2,h3,h4,h5,h6,fun i y hy=>let⟨us,r1,r2⟩:=h7 i y hy;⟨us,r1.frame hcell,r2⟩⟩
  |ext k t x=>exact k4
  |iter cs seen cl=>obtain⟨b,m,c,sn,k1,k2,k3,k4,k5⟩:=k4;exact⟨b,m,c,sn,k1,k2,k3,vw hrel hb k4,k5⟩
 refine⟨⟨fun n oc h=>⟨(lP hb2 h).1,hor n oc h⟩,fun n m oc oc' b h1 h2 h3 h4 =>?_,fun n oc b off h1 h2 =>?_,g.lU.sub rfl fun b ⟨n,oc,h1,h2⟩=>by obtain⟨oc0,k1,_⟩:=hob n oc h1;exact⟨n,oc0,k1,h2⟩⟩,⟨hA.size,hA.defers,fun n v h =>?_⟩,?_⟩
 ·obtain⟨oc0,k1,_⟩:=hob n oc h1
  obtain⟨oc0',k1',_⟩:=hob m oc' h2;exact g.apart n m oc0 oc0' b k1 k1' h3 h4
 ·obtain⟨oc0,k1,_⟩:=hob n oc h1
  exact g.out n oc0 b off k1 h2
 ·obtain⟨u,hu,hs⟩:=he n v h
  have hv:=xr hs (hA.env n u hu);obtain⟨v0,rfl,hb⟩:=sR hb1 h;cases v0 with
  |one c=>exact hrel hb hv
  |agg cs=>obtain⟨vs,h1,h2⟩:=hv;exact⟨vs,h1,vw hrel hb h2⟩
 ·refine{O:=ht.O,next:=ai _,os:=ht.os,output:=ht.output,size:=ht.size,own:=fun b hb =>?_,cell:=fun b o v h1 h2 =>?_,block:=ht.block,loc:=ht.loc,kind:=fun n oc hn h =>?_}
  ·obtain⟨n,oc,h1,h2⟩:=hb
   obtain⟨oc0,k1,_⟩:=hob n oc h1;exact ht.own b ⟨n,oc0,k1,h2⟩
  ·obtain⟨k1,k2⟩:=ht.cell b o v h1 h2
   exact⟨k1,fun h=>k2 (hAsub b o h)⟩
  ·obtain⟨oc0,k1,k2,_⟩:=hob n oc h
   obtain⟨oc1,m1,m2⟩:=ht.kind n oc0 hn k1;exact⟨oc1,m1,m2.comp k2⟩
def Ty.beq_refl:∀t:Ty,Ty.beq t t=true:=by
 intro t;induction t with
 |prod a b iha ihb=>simp[Ty.beq,iha,ihb]
 |slice e ih=>simp[Ty.beq,ih]
 |int k=>simp[Ty.beq]
 |_=>rfl
def EV(c:C):xp c c:=by
 cases c with
 |d t x=>
  simp only[xp];split
  ·rfl
  ·rename_i h;rw[Ty.beq_refl]at h;cases h
 |app t xs n=>
  simp only[xp];split
  ·rfl
  ·rename_i h;exact(h (Ty.beq_refl _) (bh _)).elim
 |_=>rfl
def lK(v:SV):oP v v:=by
 cases v with
 |s v=>
  cases v with
  |one c=>exact EV c
  |agg cs=>rfl
 |oJ vs=>rfl
def vy:∀cs:List C,Aa cs cs
 |[]=>trivial
 |c :: cs=>⟨EV c,vy cs⟩
def N0(v:OC):oQ v v:=by
 cases v with
 |cells T cs=>
  simp only[oQ,bh];exact vy cs
 |bC t xs=>
  simp only[oQ];split
  ·rfl
  ·rename_i h;rw[Ty.beq_refl]at h;cases h
 |arr t xs=>
  simp only[oQ];split
  ·rfl
  ·rename_i h;rw[Ty.beq_refl]at h;cases h
 |tok t xs=>
  simp only[oQ];split
  ·rfl
  ·rename_i h;rw[Ty.beq_refl]at h;cases h
 |ext k t x=>
  simp only[oQ];split
  ·rfl
  ·rename_i h;exact(h (bh _) (Ty.beq_refl _)).elim
 |iter cs seen cl=>exact⟨vy cs,rfl,rfl⟩
def sa{W:List Nat}:∀{l:List (Nat×SV)},oS W l=true->∀{n v},look l n=some v->n∈W:=by
 intro l;induction l with
 |nil=>intro _ n v h;simp[look]at h
 |cons p r ih=>
  obtain⟨m,x⟩:=p;intro hb n v h;simp only[oS,ae]at hb;rw[cV]at h;by_cases e:m=n
  ·subst e;exact xv.1 hb.1
  ·rw[if_neg e]at h;exact ih hb.2 h
def qd{env:List (Nat×SV)}:∀{l:List Nat},oR env l=true->∀{n},n∈l->∃v,look env n=some v:=by
 intro l;induction l with
 |nil=>intro _ n h;simp at h
 |cons t r ih=>
  intro hb n h;simp only[oR]at hb;split at hb
  ·rename_i u hu
   rcases ag.1 h with rfl|h
   ·exact⟨u,hu⟩
   ·exact ih hb h
  ·cases hb
def abi{O:aK}{K:Ex->St->VC}{W:List Nat}{st:St}{S:bQ}{next:Act->World->Prop}{Q:Exit->Act->World->Prop}{K':Ex->St->VC}
  (hn:∀a w,ib cx X O (K' .normal) W st S a w->next a w)(hK:∀e,e≠.normal->K' e=K e)(hQ:∀e a w,kT cx X O K W st S e a w->e≠.normal->Q e a w){e:Exit}{a:Act}{w:World}
  (h:kT cx X O K' W st S e a w):Exit.then next Q e a w:=by
 cases e with
 |normal=>exact hn a w h
 |exit n=>exact hQ _ _ _ (by simpa[kT,hK (.exit n) (by simp)]using h) (by simp)
 |ret=>exact hQ _ _ _ (by simpa[kT,hK .ret (by simp)]using h) (by simp)
 |goto l=>exact h.elim
 |panic c=>exact h.elim
 |outgrown=>exact h.elim
structure K2 (an:lW) (st st':St) (x:an.X) (ν:List Nat):Prop where
 nodup:nodupB ν=true
 refs:wx st' an ν an.refs=true
 get:fE false st'.aH an.aU ν an.aU ν=some (an.pd x)
 acP:∀p∈BS st' an (an.pd x) an.refs,p
 conds:∀p∈jX an.aU (an.pd x) st'.aH an.aU ν,p
 env:nT st' (an.aY x)
 aH:nU st' (nD an st x)
 out:qF ν (nD an st x)=true
def Hy{an:lW}{st st':St}{more:an.X->Prop}(h:(ET an st st' more).holds):∃x,an.inv x/\more x/\∃ν,K2 an st st' x ν:=by
 unfold ET at h;split at h
 ·rename_i ν _
  split at h
  ·rename_i y hc hy
   simp only[ae]at hc;have hall:=xl h;obtain⟨x,h1,h2,h3,h4,h5,h6⟩:=hall (∃x',an.inv x'/\more x'/\nT st' (an.aY x')/\nU st' (an.aH x'++jM st an.gS)/\(qF ν (nD an st x')=true/\y=an.pd x')) (List.mem_append_right _ (List.mem_singleton.2 rfl));subst h6;obtain⟨k1,_⟩:=kB.1 hall;obtain⟨k1,k2⟩:=kB.1 k1;exact⟨x,h1,h2,ν,hc.1,hc.2,hy,k1,k2,h3,h4,h5⟩
  ·exact h.elim
 ·exact h.elim
def tS{ν:List Nat}:∀{l:List (Nat×OC)},qF ν l=true->∀{n v},look l n=some v->n∉ν
 |[],_,n,v,h=>by simp[look]at h
 |(m,u) :: r,hk,n,v,h=>by
  simp only[qF,ae,bd]at hk;rw[cV]at h;split at h
  ·rename_i e;subst e
   intro hm;rw[Dz.2 hm]at hk;exact absurd hk.1 (by decide)
  ·exact tS hk.2 h
def pU{an:lW}{y:PD an.aU}{us:List Nat}:∀{l:List (Nat×Nat)} {t:Nat} {v:SV},look (wy an y us l) t=some v->∃k,(t,k)∈l/\v=.s (.one (iw an.aU y us k))
 |[],t,v,h=>by simp[wy,look]at h
 |(m,k) :: r,t,v,h=>by
  simp only[wy,cV]at h;split at h
  ·rename_i e;subst e;cases h;exact⟨k,by simp,rfl⟩
  ·obtain⟨k',h1,h2⟩:=pU h;exact⟨k',by simp[h1],h2⟩
def xx{st:St}{an:lW}{ν:List Nat}:∀{l:List (Nat×Nat)} {t k:Nat},wx st an ν l=true->(t,k)∈l->∃c,look st.env t=some (.s (.one c))/\lO false st.aH an.aU ν k c=true
 |[],_,_,_,h=>by simp at h
 |(m,i) :: r,t,k,h,hm=>by
  simp only[wx,ae]at h;rcases ag.1 hm with e|hm
  ·cases e
   obtain⟨h1,_⟩:=h;split at h1
   ·rename_i c hc;exact⟨c,hc,h1⟩
   ·cases h1
  ·exact xx h.2 hm
def Ac{st:St}{an:lW}{y:PD an.aU}:∀{l:List (Nat×Nat)} {t k:Nat} {c:C},(∀p∈BS st an y l,p)->(t,k)∈l->look st.env t=some (.s (.one c))->∀p∈vt an.aU y k c,p
 |[],_,_,_,_,h,_=>by simp at h
 |(m,i) :: r,t,k,c,h,hm,hl=>by
  simp only[BS]at h;obtain⟨h1,h2⟩:=kB.1 h;rcases ag.1 hm with e|hm
  ·cases e
   rw[hl]at h1;exact h1
  ·exact Ac h2 hm hl
def xy{keep:List Nat}:∀{l:List (Nat×Nat)} {t k:Nat},sA keep l=true->(t,k)∈l->t∉keep
 |[],_,_,_,h=>by simp at h
 |(m,i) :: r,t,k,h,hm=>by
  simp only[sA,ae,bd]at h;rcases ag.1 hm with e|hm
  ·cases e
   intro hk;rw[xv.2 hk]at h;exact absurd h.1 (by decide)
  ·exact xy h.2 hm
def Hz{an:lW}{O:aK}{st st':St}{loc loc0:Nat->Loc}{w w0:World}{a:Act}{W:List Nat}(x:an.X)(g:Good cx.eT X (aC O st' loc w))(hA:gX cx (aC O st' loc w) st' a)(ht:Tr (aC O st loc0 w0) (aC O st' loc w))
  (hok:pT an st W x=true)(hkeep:∀n∈an.keep,∀v,look st.env n=some v->∃u,look st'.env n=some u/\oP u v)(hf:∃ν,K2 an st st' x ν) :
  ∃loc',Good cx.eT X (aC O (eN an st x) loc' w)/\gX cx (aC O (eN an st x) loc' w) (eN an st x) a/\Tr (aC O st loc0 w0) (aC O (eN an st x) loc' w):=by
 obtain⟨ν,hf⟩:=hf;simp only[pT,ae]at hok;obtain⟨hb1,hb2,hkeys,hnr⟩:=hok;generalize husd:upto st.next an.aU.length=us;have husl:us.length=an.aU.length:=by rw[<-husd];exact xn _ _
 have hus:nodupB us=true:=by rw[<-husd];exact mv _ _
 have husm:∀n∈us,st.next<=n/\n<st.next+an.aU.length:=fun n hn=>by rw[<-husd]at hn;exact xm hn
 have hlen:ν.length=us.length:=by rw[husl];exact(pr hf.get).symm
 let loc':=fU us (ν.map loc) loc
 have hlow:∀n,n<st.next->loc' n=loc n:=fun n hn=>nr fun hm=>by have:=(husm n hm).1;omega
 have hnu:∀n,n<st.next->n∉us:=fun n hn hm=>by have:=(husm n hm).1;omega
 have hrest:∀m oc,look (nD an st x) m=some oc->m<st.next/\m∉ν/\∃u,look st'.aH m=some u/\bD (loc m) (loc m) u oc/\u.lo=oc.lo/\OR cx.eT X (aC O st' loc w) (loc m) oc:=by
  intro m oc hm;obtain⟨u,hu,hs⟩:=oe hf.aH hm;obtain⟨h1,h2,h3⟩:=xu hs (g.obj m u hu).2;exact⟨(lP hb2 hm).1,tS hf.out hm,u,hu,h2,h3,h1⟩
 have hob:∀m oc,look (eN an st x).aH m=some oc->(∃(i n:Nat) (o:Ob) (y:OD o) (oc0:OC),ν[i]?=some n/\us[i]?=some m/\look st'.aH n=some oc0/\lf false st'.aH an.aU ν o oc0=some y/\
   oc=rG (iw an.aU (an.pd x) us) o y/\loc' m=loc n)\/(m∉us/\look (nD an st x) m=some oc/\loc' m=loc m):=by
  intro m oc hm;simp only[eN,husd,dZ]at hm;split at hm
  ·rename_i oc' hm'
   cases hm;obtain⟨i,n,o,y,oc0,k1,k2,k3,k4,k5,k6,_⟩:=qY hf.get (qX (X:=X) g hf.get hf.get hf.conds) hlen hm';exact .inl ⟨i,n,o,y,oc0,k1,k2,k4,k5,k6,lH hus k2 (by simp[k1])⟩
  ·rename_i hm'
   have hnin:m∉us:=fun hmem=>by
    obtain⟨oc1,h2⟩:=qD (f:=iw an.aU (an.pd x) us) (x:=an.pd x) husl.symm hmem;rw[h2]at hm';cases hm'
   exact .inr ⟨hnin,hm,nr hnin⟩
 have hAsub:∀b o,(aC O (eN an st x) loc' w).A b o->(aC O st' loc w).A b o:=by
  rintro b off (h|⟨m,oc,h1,h2,h3⟩)
  ·exact .inl h
  ·rcases hob m oc h1 with⟨i,n,o,y,oc0,k1,k2,k4,k5,k6,k7⟩|⟨k1,k2,k3⟩
   ·refine .inr ⟨n,oc0,k4,by simp only[aC]at h2;rw[k7]at h2;exact h2,?_⟩
    rcases BQ (f:=iw an.aU (an.pd x) us) k5 with e|e
    ·rw[<-e,<-k6];exact h3
    ·cases e
   ·obtain⟨_,_,u,hu,_,hlo,_⟩:=hrest m oc k2
    exact .inr ⟨m,u,hu,by simp only[aC]at h2;rw[k3]at h2;exact h2,by rw[hlo];exact h3⟩
 have hcell:∀b o v,¬(aC O st' loc w).A b o->w.cell? ⟨b,o,none⟩=some v->w.cell? ⟨b,o,none⟩=some v/\¬(aC O (eN an st x) loc' w).A b o:=fun b o v h1 h2=>⟨h2,fun h=>h1 (hAsub b o h)⟩
 have hrel:∀{c:C} {v:Value},qZ st.next c=true->CR cx.eT (aC O st' loc w) c v->CR cx.eT (aC O (eN an st x) loc' w) c v:=fun hb hv=>
  Cv (S:=aC O st' loc w) (S':=aC O (eN an st x) loc' w) (k:=st.next) hcell (by simp[aC,eN]) (fun n hn=>hlow n hn) (fun n oc hn h=>by
   rcases hob n oc h with⟨i,n',o,y,oc0,k1,k2,_⟩|⟨k1,k2,k3⟩
   ·exact absurd (aw k2) (hnu n hn)
   ·obtain⟨_,_,u,hu,hk,_,_⟩:=hrest n oc k2
    exact⟨u,hu,hk⟩) hb hv
 obtain⟨gN,laid⟩:=J8 (X:=X) g hf.get hf.conds hf.nodup (O2:=O) (ν2:=us) (rest:=nD an st x) (locR:=loc) (st2:=eN an st x) hus hlen (by simp only[eN,husd])
  (fun n hn=>by have:=(husm n hn).2;simp only[eN];exact this)
  (fun n hn b hb off h=>by
   obtain⟨_,oc,_,_,k,_⟩:=lI hf.get hn;exact g.out n oc b off k hb h)
  (fun n hn b hb m oc h1 h2 h3=>by
   obtain⟨_,oc0,_,_,k,_⟩:=lI hf.get hn;obtain⟨_,hmν,u,hu,_⟩:=hrest m oc h1;have:=g.apart n m oc0 u b k hu hb h3;exact hmν (by rw[<-this];exact hn))
  (fun m oc h1 h2=>by
   obtain⟨hm,_,u,hu,hk,hlo,hor⟩:=hrest m oc h1;refine⟨by simp only[eN];omega,?_⟩;have hb:=(lP hb2 h1).2;cases oc with
   |cells T cs=>
    obtain⟨b,vs,h1,h2,h3,h4⟩:=hor;exact⟨b,vs,h1,h2,h3,mY (k:=st.next) hrel hb h4⟩
   |bC t xs=>exact Dy.to (S:=aC O st' loc w) (S':=aC O (eN an st x) loc' w) rfl (.inr hAsub) hor
   |tok t xs=>exact Dy.to (X:=X) (S:=aC O st' loc w) (S':=aC O (eN an st x) loc' w) (l:=loc m) rfl (.inr hAsub) hor
   |arr t xs=>
    obtain⟨b,vs,T,h1,h2,h3,h4,h5⟩:=hor;exact⟨b,vs,T,h1,h2,h3,h4,fun i y hy=>let⟨us,r1,r2⟩:=h5 i y hy;⟨us,r1.frame hcell,r2⟩⟩
   |ext k t x=>exact hor
   |iter cs seen cl=>obtain⟨b,m,c,sn,k1,k2,k3,k4,k5⟩:=hor;exact⟨b,m,c,sn,k1,k2,k3,mY (k:=st.next) hrel hb k4,k5⟩)
  (fun m m' oc oc' b h1 h2 _ _ h3 h4=>by
   obtain⟨_,_,u,hu,_⟩:=hrest m oc h1;obtain⟨_,_,u',hu',_⟩:=hrest m' oc' h2;exact g.apart m m' u u' b hu hu' h3 h4)
  (fun m oc b off h1 _ h2=>by
   obtain⟨_,_,u,hu,_⟩:=hrest m oc h1;exact g.out m u b off hu h2)
  (.inr hAsub)
  (fun b hb ⟨m,oc,h1,h2⟩=>by
   rcases hob m oc h1 with⟨i,n,o,y,oc0,k1,k2,k4,k5,k6,k7⟩|⟨k1,k2,k3⟩
   ·refine g.lU.2 b hb ⟨n,oc0,k4,?_⟩
    have e:fU us (ν.map loc) loc m=loc n:=k7;simp only[aC]at h2;rw[e]at h2;exact h2
   ·obtain⟨_,_,u,hu,_⟩:=hrest m oc k2
    have e:fU us (ν.map loc) loc m=loc m:=k3;refine g.lU.2 b hb ⟨m,u,hu,?_⟩;simp only[aC]at h2;rw[e]at h2;exact h2)
 refine⟨loc',gN,⟨hA.size,hA.defers,fun t sv hl =>?_⟩,?_⟩
 ·simp only[eN,husd,dZ]at hl
  split at hl
  ·rename_i v hv
   cases hl;obtain⟨k,hk,rfl⟩:=pU hv;obtain⟨c,hc,hs⟩:=xx hf.refs hk;have hcv:CR cx.eT (aC O st' loc w) c (a.tmps.getD t undef):=hA.env t _ hc;exact z7 laid (BP g hcv hf.get hs (Ac hf.acP hk hc))
  ·have hl2:look (s9 an st x) t=some sv:=hl
   have hst:∃u,look st'.env t=some u/\oP u sv:=by
    simp only[s9,dZ]at hl2;split at hl2
    ·rename_i v hv;cases hl2;exact od hf.env hv
    ·obtain⟨h1,h2⟩:=ji hl2;exact hkeep t h1 sv h2
   obtain⟨u,hu,hs⟩:=hst;have hv:=xr hs (hA.env t u hu);obtain⟨v0,rfl,hb⟩:=sR hb1 hl2;cases v0 with
   |one c=>exact hrel hb hv
   |agg cs=>obtain⟨vs,h1,h2⟩:=hv;exact⟨vs,h1,mY (k:=st.next) hrel hb h2⟩
 ·refine{O:=ht.O,next:=by simp[aC,eN],os:=ht.os,output:=ht.output,size:=ht.size,own:=fun b hb =>?_,cell:=fun b o v h1 h2 =>?_,block:=ht.block,loc:=fun n hn hfx =>?_,kind:=fun n oc hn h =>?_}
  ·obtain⟨m,oc,h1,h2⟩:=hb
   rcases hob m oc h1 with⟨i,n,o,y,oc0,k1,k2,k4,k5,k6,k7⟩|⟨k1,k2,k3⟩
   ·exact ht.own b ⟨n,oc0,k4,by simp only[aC]at h2;rw[k7]at h2;exact h2⟩
   ·obtain⟨_,_,u,hu,_⟩:=hrest m oc k2
    exact ht.own b ⟨m,u,hu,by simp only[aC]at h2;rw[k3]at h2;exact h2⟩
  ·obtain⟨k1,k2⟩:=ht.cell b o v h1 h2
   exact⟨k1,fun h=>k2 (hAsub b o h)⟩
  ·show(loc' n).v=_/\(_->loc' n=_)
   rw[hlow n hn];exact ht.loc n hn hfx
  ·rcases hob n oc h with⟨i,n',o,y,oc0,k1,k2,_⟩|⟨k1,k2,k3⟩
   ·exact absurd (aw k2) (hnu n hn)
   ·obtain⟨_,_,u,hu,hk,_,_⟩:=hrest n oc k2
    obtain⟨oc1,m1,m2⟩:=ht.kind n u hn hu;refine⟨oc1,m1,?_⟩;show bD _ (loc' n) _ _;rw[hlow n hn];exact m2.comp hk
def Rt{an:lW}{st:St}{W:List Nat}{x:an.X}(hok:pT an st W x=true){n:Nat}(hn:n∈an.keep){v:SV}(h:look (eN an st x).env n=some v)(hW:n∉W):look st.env n=some v:=by
 simp only[pT,ae]at hok;obtain⟨_,_,hkeys,hnr⟩:=hok;simp only[eN,s9,dZ]at h;split at h
 ·rename_i u hu
  obtain⟨k,hk,_⟩:=pU hu;exact absurd hn (xy hnr hk)
 ·split at h
  ·rename_i u hu;exact absurd (sa hkeys hu) hW
  ·exact(ji h).2
def HA{O:aK}{st:St}{loc:Nat->Loc}{w:World}{an:lW}{W:List Nat}{K:St->VC}(hdis:uL an.keep W=true)
  (hk:(VC.all an.X fun x =>.imp (an.inv x) (match lg st.next (cN an st x).env&&(kS st.next (cN an st x).aH&&oS W (an.aY x))with
     |true=>K (cN an st x)
     |false =>.ff)).holds){a':Act}{w':World}:ib cx X O (mX an st) W st (aC O st loc w) a' w'->ib cx X O K W st (aC O st loc w) a' w':=by
 have hkeepW:=uM hdis;rintro⟨st2,loc2,k1,k2,k3,k4,k5⟩;simp only[mX]at k1;split at k1
 case h_2=>exact k1.elim
 rename_i hpres;obtain⟨x',hx',hs',ho'⟩:=k1;have hvx:=hk x' hx';split at hvx
 case h_2=>exact hvx.elim
 rename_i hbb;simp only[ae]at hbb;have hhead:∀t,t∉W->∀v,look (cN an st x').env t=some v->look st.env t=some v:=by
  intro t ht v hv;simp only[cN,dZ]at hv;split at hv
  ·rename_i u hu;exact absurd (sa hbb.2.2 hu) ht
  ·exact(ji hv).2
 obtain⟨m1,m2,m3⟩:=xw (an:=an) (st:=st) x' k2 k4 k3 (by
   intro n v hv;simp only[cN,dZ]at hv;split at hv
   ·rename_i u hu;cases hv;exact od hs' hu
   ·obtain⟨hmem,hl⟩:=ji hv
    refine⟨v,?_,lK v⟩;obtain⟨v',hv'⟩:=qd hpres hmem;have:=k5 (hkeepW n hmem).1 n (hkeepW n hmem).2 v' hv';rw[hl]at this;cases this;exact hv')
  (by
   intro n v hv;simp only[cN]at hv;exact oe ho' hv) hbb.1 hbb.2.1
 exact⟨cN an st x',loc2,hvx,m1,m3,m2,fun _ t ht v hv=>hhead t ht v hv⟩
def HB(hok:mW P cx X){O:aK}{id:Nat}{ops:Array Oper}{draw:Bool}{st:St}{loc:Nat->Loc}{w:World}{a:Act}{K:Ex->St->VC}(hA:gX cx (aC O st loc w) st a)(g:Good cx.eT X (aC O st loc w))(hO:fT O w)
  (h:(BT cx ops draw st (K .normal)).holds):(Code.region id ops draw).wp P (kT cx X O K (eR ops.toList) st (aC O st loc w)) a w:=by
 have hW:∀(j:Nat) (oj:Oper) (d:Nat),ops[j]?=some oj->oj.dst=some d->d∈eR ops.toList:=by
  intro j oj d hj hd;exact ep.2 ⟨oj,by rw[<-Array.getElem?_toList]at hj;exact aw hj,hd⟩
 have hq:∀st' loc' a' w',(K .normal st').holds->Good cx.eT X (aC O st' loc' w')->Tr (aC O st loc w) (aC O st' loc' w')->gX cx (aC O st' loc' w') st' a'->pq (eR ops.toList) st st'->
   kT cx X O K (eR ops.toList) st (aC O st loc w) .normal a' w':=fun st' loc' a' w' h1 h2 h3 h4 h5=>⟨st',loc',h1,h2,h3,h4,h5⟩
 unfold BT at h;cases draw with
 |false=>
  refine wp_region_list ?_;exact Cp hok hW ops.toList (fun o ho d hd=>ep.2 ⟨o,ho,hd⟩) hA g hO h hq
 |true=>
  split at h
  ·rename_i e;cases e
  ·rename_i e
   split at h
   ·rename_i hreg
    rw[PN]at h;refine wp_region_any hok.mixed (GC (loud:=l6 cx ops.toList) _ _ _ _ (aC O st loc {w with drawn:=w.drawn+1}).A ?_);have hdrew:Below w.heap.size w {w with drawn:=w.drawn+1}:=⟨rfl,rfl,ai _,fun _ _=>rfl⟩;obtain⟨tr,g'⟩:=qN (S:=aC O st loc w) (S':=aC O st loc {w with drawn:=w.drawn+1}) g rfl rfl rfl rfl hdrew;refine Cq hok hW hreg (fun c a w h=>h) ops.size _ ?_ ⟨hA.size,hA.defers,hA.env.tr tr⟩ g' (hO.tr (ai _)) h ?_
    ·intro j o ho hj
     rw[bc,Array.getElem?_replicate]at hj;split at hj <;> simp at hj
    ·intro st' loc' a' w' h1 h2 h3 h4 h5
     obtain⟨st2,loc2,k1,k2,k3,k4,k5⟩:=ib.ren (K:=K .normal) (f:=canon st.next (eR ops.toList)) (W:=eR ops.toList) hA (fun st'=>by
      rcases ER st.next (eR ops.toList) st' with e|⟨r,q,k1,k2⟩
      ·exact .inl e
      ·exact .inr ⟨r,q,k1,k2⟩) (⟨st',loc',h1,h2,tr.trans h3,h4,h5⟩:ib cx X O (fun st'=>K .normal (canon st.next (eR ops.toList) st')) (eR ops.toList) st (aC O st loc w) a' w')
     exact hq st2 loc2 a' w' k1 k2 k3 k4 k5
   ·exact h.elim
def Yr(hok:mW P cx X)(anns:cU){O:aK}:∀(c:Code) (cur:Nat) {st:St} {loc:Nat->Loc} {w:World} {a:Act} {K:Ex->St->VC},
  gX cx (aC O st loc w) st a->Good cx.eT X (aC O st loc w)->fT O w->(vc cx anns c cur st K).holds->c.wp P (kT cx X O K (writes anns cur c) st (aC O st loc w)) a w:=by
 intro c;induction c with
 |skip=>intro cur st loc w a K hA g hO h;exact wp_skip ⟨st,loc,h,g,Tr.refl _,hA,fun _ _ _ _ h=>h⟩
 |region id ops draw=>
  intro cur st loc w a K hA g hO h;simp only[vc]at h;split at h
  ·exact HB hok hA g hO h
  ·rename_i an _
   split at h
   case h_2=>exact h.elim
   rename_i hdis;obtain⟨hb,hk⟩:=h;refine wp_mono (HB (K:=fun e=>match e with|.normal=>mX an st|e=>K e) hok hA g hO hb) ?_;intro e a' w' hq;cases e with
   |normal=>exact HA hdis hk hq
   |exit i=>exact hq
   |ret=>exact hq
   |goto l=>exact hq.elim
   |panic c=>exact hq.elim
   |outgrown=>exact hq.elim
 |seq c1 c2 ih1 ih2=>
  intro cur st loc w a K hA g hO h;refine wp_seq ?_;refine wp_mono (ih1 cur hA g hO h) ?_;intro e a' w' hq;refine abi (K:=K) (W:=writes anns cur c1) ?_ (fun e he=>by cases e <;> simp_all) ?_ hq
  ·rintro a1 w1 ⟨st',loc',k1,k2,k3,k4,k5⟩
   refine wp_mono (ih2 cur k4 k2 (hO.tr k3.size) k1) ?_;intro e a2 w2 hq2;exact hq2.mono k3 (W':=writes anns cur (.seq c1 c2)) (fun hm t ht=>k5 (fun h=>hm (ba.2 (.inl h))) t fun hm=>ht (ba.2 (.inl hm))) (fun n hn=>ba.2 (.inr hn))
  ·intro e a1 w1 hq1 _
   exact hq1.mono (Tr.refl _) (fun _ _ _ _ h=>h) (fun n hn=>ba.2 (.inl hn))
 |cond x c1 c2 ih1 ih2=>
  intro cur st loc w a K hA g hO h;have hx:=cA hA.env x;have h1:∀{K},(vc cx anns c1 cur st K).holds->c1.wp P (kT cx X O K (writes anns cur (.cond x c1 c2)) st (aC O st loc w)) a w:=fun h=>
   wp_mono (ih1 cur hA g hO h) fun e a' w' hq=>hq.mono (Tr.refl _) (fun _ _ _ _ h=>h) (fun n hn=>ba.2 (.inl hn))
  have h2:∀{K},(vc cx anns c2 cur st K).holds->c2.wp P (kT cx X O K (writes anns cur (.cond x c1 c2)) st (aC O st loc w)) a w:=fun h=>
   wp_mono (ih2 cur hA g hO h) fun e a' w' hq=>hq.mono (Tr.refl _) (fun _ _ _ _ h=>h) (fun n hn=>ba.2 (.inr hn))
  have base:∀{K:Ex->St->VC},(match eZ st.env x with
    |.lit true=>vc cx anns c1 cur st K
    |.lit false=>vc cx anns c2 cur st K
    |.d .bool g =>.ite g (vc cx anns c1 cur st K) (vc cx anns c2 cur st K)
    |_ =>.ff).holds->(Code.cond x c1 c2).wp P (kT cx X O K (writes anns cur (.cond x c1 c2)) st (aC O st loc w)) a w:=by
   intro K h;split at h
   ·rename_i hl;rw[hl]at hx;exact wp_cond_true hx (h1 h)
   ·rename_i hl;rw[hl]at hx;exact wp_cond_false hx (h2 h)
   ·rename_i b hl
    rw[hl]at hx;have hx:=(fO (eT:=cx.eT) (S:=aC O st loc w) (b:=b)).1 hx;cases b
    ·exact wp_cond_false hx (h2 (h.2 rfl))
    ·exact wp_cond_true hx (h1 (h.1 rfl))
   ·exact h.elim
  simp only[vc]at h;split at h
  ·exact base h
  ·rename_i an _
   split at h
   case h_2=>exact h.elim
   rename_i hdis;obtain⟨hb,hk⟩:=h;refine wp_mono (base (K:=fun e st'=>match e with|.normal=>mX an st st'|e=>K e st') hb) ?_;intro e a' w' hq;cases e with
   |normal=>exact HA hdis hk hq
   |exit i=>exact hq
   |ret=>exact hq
   |goto l=>exact hq.elim
   |panic c=>exact hq.elim
   |outgrown=>exact hq.elim
 |block id b ih=>
  intro cur st loc w a K hA g hO h;refine wp_block ?_;simp only[vc]at h;split at h
  case h_2=>
   rename_i an _;split at h
   case h_2=>exact h.elim
   rename_i hdis;have hkeepW:=uM hdis;obtain⟨hb,hk⟩:=h;refine wp_mono (ih id hA g hO hb) ?_;intro e a' w' hq;have join:ib cx X O (mX an st) (writes anns id b) st (aC O st loc w) a' w'->kT cx X O K (writes anns cur (.block id b)) st (aC O st loc w) .normal a' w':=by
    rintro⟨st2,loc2,k1,k2,k3,k4,k5⟩;simp only[mX]at k1;split at k1
    case h_2=>exact k1.elim
    rename_i hpres;obtain⟨x',hx',hs',ho'⟩:=k1;have hvx:=hk x' hx';split at hvx
    case h_2=>exact hvx.elim
    rename_i hbb;simp only[ae]at hbb;have hhead:∀t,t∉writes anns id b->∀v,look (cN an st x').env t=some v->look st.env t=some v:=by
     intro t ht v hv;simp only[cN,dZ]at hv;split at hv
     ·rename_i u hu;exact absurd (sa hbb.2.2 hu) ht
     ·exact(ji hv).2
    obtain⟨m1,m2,m3⟩:=xw (an:=an) (st:=st) x' k2 k4 k3 (by
      intro n v hv;simp only[cN,dZ]at hv;split at hv
      ·rename_i u hu;cases hv;exact od hs' hu
      ·obtain⟨hmem,hl⟩:=ji hv
       refine⟨v,?_,lK v⟩;obtain⟨v',hv'⟩:=qd hpres hmem;have:=k5 (hkeepW n hmem).1 n (hkeepW n hmem).2 v' hv';rw[hl]at this;cases this;exact hv')
     (by
      intro n v hv;simp only[cN]at hv;exact oe ho' hv) hbb.1 hbb.2.1
    exact⟨cN an st x',loc2,hvx,m1,m3,m2,fun _ t ht v hv=>hhead t ht v hv⟩
   cases e with
   |normal=>exact join hq
   |exit i=>
    show if i=id then _ else _
    by_cases hi:i=id
    ·rw[if_pos hi]
     subst hi;obtain⟨st',loc',k1,k2⟩:=hq;simp only[bh]at k1;exact join ⟨st',loc',k1,k2⟩
    ·rw[if_neg hi]
     obtain⟨st',loc',k1,k2⟩:=hq;simp only[pN hi]at k1;exact⟨st',loc',k1,k2⟩
   |ret=>exact hq
   |goto l=>exact hq.elim
   |panic c=>exact hq.elim
   |outgrown=>exact hq.elim
  refine wp_mono (ih id hA g hO h) ?_;intro e a' w' hq;cases e with
  |normal=>exact hq
  |exit i=>
   obtain⟨st',loc',k1,k2,k3,k4,k5⟩:=hq;simp only at k1;show if i=id then _ else _
   split at k1
   ·rename_i hi
    rw[if_pos (ah hi)];exact⟨st',loc',k1,k2,k3,k4,k5⟩
   ·rename_i hi
    rw[if_neg (fun e=>by rw[e,bh]at hi;cases hi)];exact⟨st',loc',k1,k2,k3,k4,k5⟩
  |ret=>exact hq
  |goto l=>exact hq.elim
  |panic c=>exact hq.elim
  |outgrown=>exact hq.elim
 |loop b ih=>
  intro cur st loc w a K hA g hO h;simp only[vc]at h;split at h
  ·rename_i hnone
   have hwl:writes anns cur (.loop b)=writes anns cur b:=by simp only[writes,hnone]
   split at h
   case h_2=>exact h.elim
   rename_i an _;split at h
   ·rename_i hdis
    have hkeepW:=uM hdis;obtain⟨⟨x0,hx0,hs0,ho0⟩,h⟩:=h;have hobk:∀x n v,look (cN an st x).aH n=some v->look (an.aH x) n=some v\/look st.aH n=some v:=by
     intro x n v hv;simp only[cN,dZ]at hv;split at hv
     ·rename_i u hu;cases hv;exact .inl hu
     ·exact .inr (JR hv)
    have hhead:∀x,oS (writes anns cur b) (an.aY x)=true->∀t,t∉writes anns cur b->∀v,look (cN an st x).env t=some v->look st.env t=some v:=by
     intro x hk t ht v hv;simp only[cN,dZ]at hv;split at hv
     ·rename_i u hu;exact absurd (sa hk hu) ht
     ·exact(ji hv).2
    refine wp_loop_ghost (fun n a' w'=>∃x loc',an.inv x/\an.bF x=n/\lg st.next (cN an st x).env=true/\(kS st.next (cN an st x).aH=true/\oS (writes anns cur b) (an.aY x)=true)/\
     (vc cx anns b cur (cN an st x) fun e st'=>match e with
       |.normal=>match oR st'.env an.keep with
        |true =>.leaf (∃x',an.inv x'/\an.bF x'<an.bF x/\nT st' (an.aY x')/\nU st' (an.aH x'++jM st an.gS))
        |false =>.ff
       |e=>K e st').holds/\
     Good cx.eT X (aC O (cN an st x) loc' w')/\gX cx (aC O (cN an st x) loc' w') (cN an st x) a'/\Tr (aC O st loc w) (aC O (cN an st x) loc' w')) (an.bF x0) ?_ ?_
    ·have hx:=h x0 hx0
     split at hx
     ·rename_i hb
      simp only[ae]at hb;obtain⟨m1,m2,m3⟩:=xw (an:=an) (st:=st) x0 g hA (Tr.refl _) (by
        intro n v hv;simp only[cN,dZ]at hv;split at hv
        ·rename_i u hu;cases hv;exact od hs0 hu
        ·obtain⟨_,hl⟩:=ji hv
         exact⟨v,hl,lK v⟩)
       (by
        intro n v hv;rcases hobk x0 n v hv with hv|hv
        ·exact oe ho0 hv
        ·exact⟨v,hv,N0 v⟩) hb.1 hb.2.1
      exact⟨x0,loc,hx0,rfl,hb.1,hb.2,hx,m1,m2,m3⟩
     ·exact hx.elim
    ·rintro n a1 w1 ⟨x,loc1,hx,hn,hb1,hb2,hvc,g1,hA1,tr1⟩
     refine wp_mono (ih cur hA1 g1 (hO.tr tr1.size) hvc) ?_;intro e a2 w2 hq;have up:∀Kx:St->VC,ib cx X O Kx (writes anns cur b) (cN an st x) (aC O (cN an st x) loc1 w1) a2 w2->ib cx X O Kx (writes anns cur (.loop b)) st (aC O st loc w) a2 w2:=by
      rintro Kx ⟨st2,loc2,k1,k2,k3,k4,k5⟩;exact⟨st2,loc2,k1,k2,tr1.trans k3,k4,fun hm t ht v hv=>by rw[hwl]at hm ht;exact hhead x hb2.2 t ht v (k5 hm t ht v hv)⟩
     cases e with
     |normal=>
      obtain⟨st2,loc2,k1,k2,k3,k4,k5⟩:=hq;simp only at k1;split at k1
      case h_2=>exact k1.elim
      rename_i hpres;obtain⟨x',hx',hlt,hs',ho'⟩:=k1;have hvx:=h x' hx';refine⟨an.bF x',by rw[<-hn];exact hlt,?_⟩;split at hvx
      ·rename_i hb
       simp only[ae]at hb;obtain⟨m1,m2,m3⟩:=xw (an:=an) (st:=st) x' k2 k4 (tr1.trans k3) (by
         intro n v hv;simp only[cN,dZ]at hv;split at hv
         ·rename_i u hu;cases hv;exact od hs' hu
         ·obtain⟨hmem,hl⟩:=ji hv
          refine⟨v,?_,lK v⟩;obtain⟨v',hv'⟩:=qd hpres hmem;have:=hhead x hb2.2 n (hkeepW n hmem).2 v' (k5 (hkeepW n hmem).1 n (hkeepW n hmem).2 v' hv');rw[hl]at this;cases this;exact hv')
        (by
         intro n v hv;simp only[cN]at hv;exact oe ho' hv) hb.1 hb.2.1
       exact⟨x',loc2,hx',rfl,hb.1,hb.2,hvx,m1,m2,m3⟩
      ·exact hvx.elim
     |exit i=>exact up _ hq
     |ret=>exact up _ hq
     |goto l=>exact hq.elim
     |panic c=>exact hq.elim
     |outgrown=>exact hq.elim
   ·exact h.elim
  ·rename_i f hsome
   have hwl:writes anns cur (.loop b)=allM :: writes anns cur b:=by simp only[writes,hsome]
   generalize K0 st (f st)=an at h;split at h
   case h_2=>exact h.elim
   rename_i hdis;have hkeepW:=uM hdis;obtain⟨hfit,h⟩:=h;obtain⟨x0,hx0,_,hf0⟩:=Hy hfit;refine wp_loop_ghost (fun n a' w'=>∃x loc',an.inv x/\an.bF x=n/\pT an st (writes anns cur b) x=true/\
    (vc cx anns b cur (eN an st x) fun e st'=>match e with
      |.normal=>match oR st'.env an.keep with
       |true=>ET an st st' fun x'=>an.bF x'<an.bF x
       |false =>.ff
      |e=>K e st').holds/\
    Good cx.eT X (aC O (eN an st x) loc' w')/\gX cx (aC O (eN an st x) loc' w') (eN an st x) a'/\Tr (aC O st loc w) (aC O (eN an st x) loc' w')) (an.bF x0) ?_ ?_
   ·have hx:=h x0 hx0
    split at hx
    case h_2=>exact hx.elim
    rename_i hok2;obtain⟨loc',m1,m2,m3⟩:=Hz (an:=an) (st:=st) x0 g hA (Tr.refl _) hok2 (fun n hn v hv=>⟨v,hv,lK v⟩) hf0;exact⟨x0,loc',hx0,rfl,hok2,hx,m1,m2,m3⟩
   ·rintro n a1 w1 ⟨x,loc1,hx,hn,hokx,hvc,g1,hA1,tr1⟩
    refine wp_mono (ih cur hA1 g1 (hO.tr tr1.size) hvc) ?_;intro e a2 w2 hq;have up:∀Kx:St->VC,ib cx X O Kx (writes anns cur b) (eN an st x) (aC O (eN an st x) loc1 w1) a2 w2->ib cx X O Kx (writes anns cur (.loop b)) st (aC O st loc w) a2 w2:=by
     rintro Kx ⟨st2,loc2,k1,k2,k3,k4,k5⟩;exact⟨st2,loc2,k1,k2,tr1.trans k3,k4,fun hm=>by rw[hwl]at hm;exact absurd (List.mem_cons_self) hm⟩
    cases e with
    |normal=>
     obtain⟨st2,loc2,k1,k2,k3,k4,k5⟩:=hq;simp only at k1;split at k1
     case h_2=>exact k1.elim
     rename_i hpres;obtain⟨x',hx',hlt,hf'⟩:=Hy k1;have hvx:=h x' hx';split at hvx
     case h_2=>exact hvx.elim
     rename_i hok2;refine⟨an.bF x',by rw[<-hn];exact hlt,?_⟩;obtain⟨loc',m1,m2,m3⟩:=Hz (an:=an) (st:=st) x' k2 k4 (tr1.trans k3) hok2 (fun n hn v hv=>by
      obtain⟨v',hv'⟩:=qd hpres hn;have h1:=k5 (hkeepW n hn).1 n (hkeepW n hn).2 v' hv';refine⟨v',hv',?_⟩;have h2:=Rt hokx hn h1 (hkeepW n hn).2;rw[hv]at h2;cases h2;exact lK v) hf'
     exact⟨x',loc',hx',rfl,hok2,hvx,m1,m2,m3⟩
    |exit i=>exact up _ hq
    |ret=>exact up _ hq
    |goto l=>exact hq.elim
    |panic c=>exact hq.elim
    |outgrown=>exact hq.elim
 |rangeFunc f ps aem b _ _=>intro cur st loc w a K _ _ _ h;exact h.elim
 |exit id=>intro cur st loc w a K hA g hO h;exact wp_exit ⟨st,loc,h,g,Tr.refl _,hA,fun _ _ _ _ h=>h⟩
 |scope b _=>intro cur st loc w a K _ _ _ h;exact h.elim
 |label l=>intro cur st loc w a K _ _ _ h;exact h.elim
 |goto l=>intro cur st loc w a K _ _ _ h;exact h.elim
 |ret=>intro cur st loc w a K hA g hO h;exact wp_ret ⟨st,loc,h,g,Tr.refl _,hA,fun _ _ _ _ h=>h⟩
 |refuse why=>intro cur st loc w a K _ _ _ h;exact h.elim
end
@[reducible] def HL:List Ty->Type
 |[]=>Unit
 |[t]=>D t
 |t :: u :: r=>D t×HL (u :: r)
def mw:List Ty->Bool
 |[]=>true
 |t :: r=>t.flat&&mw r
def Ka(st:St)(want:Ty)(n:Nat):Option (D want):=
 match look st.aH n with
 |some (.ext 0 t xs)=>match h:Ty.beq t want with
  |true=>some (cX h (a:=t) xs)
  |false=>none
 |_=>none
def Ru(lend:Bool)(st:St)(t:Ty)(a:dC):Option (D t):=
 match lend,t,a with
 |true,.slice e,.one (.bC n)=>zI st e (.bC n)
 |true,t,.one (.xd n .top)=>Ka st t n
 |_,t,a=>sP t a
def qe(lend:Bool)(st:St):(ts:List Ty)->List dC->Option (HL ts)
 |[],[]=>some ()
 |[t],[a]=>Ru lend st t a
 |t :: u :: r,a :: aem=>match Ru lend st t a,qe lend st (u :: r) aem with
  |some x,some xs=>some (x,xs)
  |_,_=>none
 |_,_=>none
def rI:(ts:List Ty)->HL ts->List dC
 |[],_=>[]
 |[t],y=>[.one (.d t y)]
 |t :: u :: r,ys =>.one (.d t ys.1) :: rI (u :: r) ys.2
def uN:List dC->SV
 |[v] =>.s v
 |vs =>.oJ vs
def Ad(st:St)(c:C):C×St:=
 match c with
 |.bC n=>match look st.aH n with
  |some (.bC t xs)=>(.d (.slice t) xs,bH st n)
  |_=>(c,st)
 |.xd n .top=>match look st.aH n with
  |some (.ext 0 t xs)=>(.d t xs,bH st n)
  |_=>(c,st)
 |c=>(c,st)
def xz:St->List C->List C×St
 |st,[]=>([],st)
 |st,c :: cs=>match Ad st c with
  |(c',st1)=>match xz st1 cs with
   |(cs',st2)=>(c' :: cs',st2)
def DB(st:St)(v:dC):dC×St:=
 match v with
 |.one c=>match Ad st c with
  |(c',st')=>(.one c',st')
 |.agg cs=>match xz st cs with
  |(cs',st')=>(.agg cs',st')
def GI(lend:Bool)(st:St)(v:dC):dC×St:=
 match lend,v with
 |true,.one c=>(.one c,st)
 |_,v=>DB st v
def vz(lend:Bool):St->List dC->List dC×St
 |st,[]=>([],st)
 |st,v :: vs=>match GI lend st v with
  |(v',st1)=>match vz lend st1 vs with
   |(vs',st2)=>(v' :: vs',st2)
def qq(ts rts:List Ty)(pre:HL ts->Prop)(post:HL ts->HL rts->Prop):aX:=fun args st K=>
 match vz (mw rts) st args with
 |(args,st)=>match qe (mw rts) st ts args with
  |some xs =>.and (pre xs) (.all (HL rts) fun ys =>.imp (post xs ys) (K (uN (rI rts ys)) st))
  |none =>.ff
def bX(ts rts:List Ty)(pre:HL ts->Prop)(g:HL ts->HL rts):aX:=fun args st K=>
 match vz (mw rts) st args with
 |(args,st)=>match qe (mw rts) st ts args with
  |some xs =>.and (pre xs) (K (uN (rI rts (g xs))) st)
  |none =>.ff
inductive Dec (α:Type) where
 |ret (a:α)
 |ite (c:Bool) (a b:Dec α)
def Dec.eval{α:Type}:Dec α->α
 |.ret a=>a
 |.ite c a b=>match c with
  |true=>a.eval
  |false=>b.eval
def Uy(st:St)(want:Ty)(c:C):Option (D want):=
 match c with
 |.bC n=>match look st.aH n with
  |some (.bC t xs)=>match h:Ty.beq (.slice t) want with
   |true=>some (cX h (a:=.slice t) xs)
   |false=>none
  |_=>none
 |.xd n .top=>Ka st want n
 |c=>uz want c
def qf(st:St):(t:Ty)->List C->Option (D t×List C)
 |.prod a b,cs=>match qf st a cs with
  |some (x,cs1)=>match qf st b cs1 with
   |some (y,cs2)=>some ((x,y),cs2)
   |none=>none
  |none=>none
 |.unit,cs=>some ((),cs)
 |t,c :: cs=>match Uy st t c with
  |some x=>some (x,cs)
  |none=>none
 |_,[]=>none
def Rv(st:St)(want:Ty):dC->Option (D want)
 |.one c=>Uy st want c
 |.agg cs=>match want.one with
  |true=>none
  |false=>match qf st want cs with
   |some (x,[])=>some x
   |_=>none
def Ae(st:St):(ts:List Ty)->List dC->Option (HL ts)
 |[],[]=>some ()
 |[t],[a]=>Rv st t a
 |t :: u :: r,a :: aem=>match Rv st t a,Ae st (u :: r) aem with
  |some x,some xs=>some (x,xs)
  |_,_=>none
 |_,_=>none
def sb(cx:Cx)(st:St):List ResultVar->(List dC->VC)->VC
 |[],K=>K []
 |.tmp t :: r,K=>match ev st.env (.tmp t)with
  |.s v=>sb cx st r fun vs=>K (v :: vs)
  |_ =>.ff
 |.cell a t :: r,K=>zG cx st t (eZ st.env (.tmp a)) fun sv=>match sv with
  |.s v=>sb cx st r fun vs=>K (v :: vs)
  |_ =>.ff
def Rw(cx:Cx)(anns:cU)(res:List ResultVar)(c:Code)(st:St)(K:List dC->St->VC):VC:=
 vc cx anns c 0 st fun e st'=>match e with
  |.exit _ =>.ff
  |_=>sb cx st' res fun vs=>K vs st'
def sU(B:Cx)(Γ:List (FuncId×(Bool×aX)))(N:Nat):Cx:={B with Γ:=Γ,N:=N}
def wA:Nat->(ts:List Ty)->HL ts->List (Nat×SV)
 |_,[],_=>[]
 |k,[t],x=>[(k,.s (.one (.d t x)))]
 |k,t :: u :: r,xs=>(k,.s (.one (.d t xs.1))) :: wA (k+1) (u :: r) xs.2
def sd(ts:List Ty)(xs:HL ts):St:={env:=wA 0 ts xs,aH:=[],next:=0}
def PU(B:Cx)(Γ:List (FuncId×(Bool×aX)))(N:Nat)(anns:cU)(res:List ResultVar)(c:Code)(ts rts:List Ty)(post:HL ts->HL rts->Prop)(xs:HL ts):VC:=
 Rw (sU B Γ N) anns res c (sd ts xs) fun vs st=>match Ae st rts vs with
  |some ys =>.leaf (post xs ys)
  |none =>.ff
section
variable{eT:TypeId}{X:Ext}{P:Program}{cx:Cx}
def nE(eT:TypeId)(A:aK)(w:World):(ts:List Ty)->HL ts->List Value->Prop
 |[],_,vs=>vs=[]
 |[t],x,vs=>∃v,vs=[v]/\VR eT t x A w v
 |t :: u :: r,xs,vs=>∃v vs',vs=v :: vs'/\VR eT t xs.1 A w v/\nE eT A w (u :: r) xs.2 vs'
def xA:List Value->Value
 |[v]=>v
 |vs =>.tuple vs.toArray
structure bO (P:Program) (eT:TypeId) (X:Ext) (f:FuncId) (ts rts:List Ty) (pre:HL ts->Prop) (post:HL ts->HL rts->Prop):Prop where
 fn:∃fn,P.funcs[f]?=some fn/\fn.body.isNone=false/\(fn.name == "runtime.NumGoroutine")=false
 ok:∀O w xs vs,X.zB w->fT O w->nE eT O w ts xs vs->pre xs->
  Calls P f vs.toArray w fun e w'=>∃us ys,e=.returned (xA us)/\post xs ys/\nE eT O w' rts ys us/\Below w.heap.size w w'
def tT(tmps:Array Value):ResultVar->Sem Value
 |.tmp t=>pure (tmps.getD t undef)
 |.cell b t=>do loadVar t (<-asAddr (tmps.getD b undef))
def Cw(hok:TyOK P cx){O:aK}{st:St}{loc:Nat->Loc}{w:World}{a:Act}(g:Good cx.eT X (aC O st loc w))(he:iu cx.eT (aC O st loc w) st.env a) :
  ∀{rs:List ResultVar} {K:List dC->VC},(sb cx st rs K).holds->
  ∃vs us,(K vs).holds/\dE cx.eT (aC O st loc w) vs us/\(rs.mapM (tT a.tmps):Sem (List Value)).run P w=.ok us w:=by
 intro rs;induction rs with
 |nil=>intro K h;exact⟨[],[],h,.nil,rfl⟩
 |cons r rs ih=>
  intro K h;cases r with
  |tmp t=>
   simp only[sb]at h;split at h
   ·rename_i v hv
    obtain⟨vs,us,h1,h2,h3⟩:=ih h;have hr:=oL he (.tmp t);rw[hv]at hr;refine⟨v :: vs,a.tmps.getD t undef :: us,h1,.cons hr h2,?_⟩;rw[de];simp only[tT,af,ak,ar,h3]
   ·exact h.elim
  |cell b t=>
   simp only[sb]at h;obtain⟨sv,u,h1,h2,h3⟩:=w4 (P:=P) hok g (cA he (.tmp b)) h;split at h1
   ·rename_i v
    obtain⟨vs,us,k1,k2,k3⟩:=ih h1;have h3:=h3 w (Below.refl _ _);refine⟨v :: vs,u :: us,k1,.cons h2 k2,?_⟩;rw[de];have h4:(do loadVar t (<-asAddr (a.tmps.getD b undef)):Sem Value).run P w=.ok u w:=by
     have h3:(cj t (a.tmps.getD b undef)).run P w=.ok u w:=h3;generalize a.tmps.getD b undef=p at h3;cases p with
     |pointer q=>
      cases q with
      |none=>simp[cj,df]at h3
      |some q=>simpa[cj,df,asAddr]using h3
     |_=>simp[cj,df]at h3
    simp only[tT,af]at h4 ⊢;simp only[h4,ak,ar,k3]
   ·exact h1.elim
def dE.len{S:bQ}{xs:List dC}{us:List Value}(h:dE eT S xs us):xs.length=us.length:=by
 induction h with
 |nil=>rfl
 |cons _ _ ih=>simp[ih]
def Af{S:bQ}{vs:List dC}{us:List Value}(h:dE eT S vs us):eL eT S (uN vs) (xA us):=by
 match vs,us,h with
 |[],[],h=>exact⟨[],rfl,h⟩
 |[v],[u],.cons h1 .nil=>exact h1
 |_ :: _ :: _,_ :: _ :: _,h=>exact⟨_,rfl,h⟩
def vA(hok:mW P cx X){f:FuncId}{fn:Func}{c:Code}(hf:P.funcs[f]?=some fn)(hb:fn.body=some c)(hN:cx.N=fn.ntmps)(anns:cU){O:aK}{st:St}{loc:Nat->Loc}{w:World}
  {args:Array Value}{K:List dC->St->VC}(hsz:args.size<=fn.ntmps)(g:Good cx.eT X (aC O st loc w))(hO:fT O w)
  (henv:∀t sv,look st.env t=some sv->∃v,args[t]?=some v/\eL cx.eT (aC O st loc w) sv v)
  (h:(Rw cx anns fn.results.toList c st K).holds) :
  Calls P f args w fun e w'=>∃vs us st' loc',e=.returned (xA us)/\(K vs st').holds/\dE cx.eT (aC O st' loc' w') vs us/\Good cx.eT X (aC O st' loc' w')/\Tr (aC O st loc w) (aC O st' loc' w'):=by
 refine calls_of_wp hf hb ?_;have hA:gX cx (aC O st loc w) st {tmps:=args++ek (fn.ntmps-args.size) undef,defers:=[]}:=by
  refine⟨by simp[hN];omega,rfl,fun t sv ht =>?_⟩;obtain⟨v,hv,hr⟩:=henv t sv ht;have hlt:t<args.size:=by
   rcases a8 t args.size with hh|hh
   ·exact hh
   ·rw[Array.getElem?_eq_none hh]at hv;cases hv
  rw[bc,Array.getElem?_append,if_pos hlt,hv];exact hr
 refine wp_mono (Yr hok anns c 0 hA g hO h) ?_;have fin:∀(a':Act) (w':World),ib cx X O (fun st'=>sb cx st' fn.results.toList fun vs=>K vs st') (writes anns 0 c) st (aC O st loc w) a' w'->a'.defers=[]/\∃v,(results fn a'.tmps).run P w'=.ok v w'/\
   ∃vs us st' loc',Ending.returned v=.returned (xA us)/\(K vs st').holds/\dE cx.eT (aC O st' loc' w') vs us/\Good cx.eT X (aC O st' loc' w')/\Tr (aC O st loc w) (aC O st' loc' w'):=by
  rintro a' w' ⟨st',loc',k1,k2,k3,k4,_⟩;obtain⟨vs,us,m1,m2,m3⟩:=Cw (P:=P) hok.toTyOK k2 k4.env k1;refine⟨k4.defers,xA us,?_,vs,us,st',loc',rfl,m1,m2,k2,k3⟩;have hm:(fn.results.mapM (tT a'.tmps):Sem (Array Value)).run P w'=.ok us.toArray w':=by
   rw[<-dh (xs:=fn.results),List.mapM_toArray,Sem.run_map,m3];rfl
  have he:results fn a'.tmps=(do
    let xs <-fn.results.mapM (tT a'.tmps)
    return if h:xs.size=1 then xs[0]else .tuple xs):=by
   unfold results;congr 1
  rw[he,af,hm];simp only[ar,ak]
  match us with
  |[]=>rfl
  |[u]=>rfl
  |_ :: _ :: _=>rfl
 intro e a' w' hq;cases e with
 |normal=>exact fin a' w' hq
 |ret=>exact fin a' w' hq
 |exit n=>obtain⟨st',loc',k1,_⟩:=hq;exact k1.elim
 |goto l=>exact hq.elim
 |panic c=>exact hq.elim
 |outgrown=>exact hq.elim
end
section
variable{X:Ext}{P:Program}{cx:Cx}
def Uz{O:aK}{st:St}{loc:Nat->Loc}{w:World}{b o:Nat}(h:¬(aC O st loc w).A b o):¬O b o:=fun k=>h (.inl k)
def ad5{O:aK}{st:St}{loc:Nat->Loc}{w:World}{t:Ty}{x:D t}{v:Value}{eT:TypeId}(h:VR eT t x (aC O st loc w).A w v):VR eT t x O w v:=
 VR.frame h fun _ _ _ ha hc=>⟨hc,Uz ha⟩
def PV{O:aK}{st:St}{loc:Nat->Loc}{w:World}(g:Good cx.eT X (aC O st loc w)){n:Nat}{t:Ty}{xs:List (D t)}(hob:look st.aH n=some (.bC t xs))
  {v:Value}(hx:CR cx.eT (aC O st loc w) (.bC n) v):VR cx.eT (.slice t) xs O w v:=by
 rcases(g.obj _ _ hob).2 with⟨rfl,⟨a,ha⟩,_⟩|⟨b,vs,T,cap,hl,jc,hheap,hvs,hcap,hbig,he⟩
 ·exact VR.cZ rfl ⟨_,rfl,by simp,.inl ⟨rfl,a,0,(hx.2 _ _ hob).trans ha⟩⟩
 refine VR.cZ rfl ⟨_,rfl,hbig,.inr ⟨b,0,cap,(hx.2 _ _ hob).trans hl,hcap,fun i y hy =>?_⟩⟩;obtain⟨us,h1,h2⟩:=he i y hy;refine⟨us,h1.frame fun _ _ _ ha hc=>⟨hc,Uz ha⟩,fun j u hj=>⟨?_,?_⟩⟩
 ·rw[ay,cell_of_row w b _ vs T (0,0) hheap];exact h2 j u hj
 ·exact g.out n _ b _ hob (by rw[jc];simp)
def PW{O:aK}{st:St}{loc:Nat->Loc}{w:World}(g:Good cx.eT X (aC O st loc w)){n:Nat}{t:Ty}{xs:D t}(hob:look st.aH n=some (.ext 0 t xs))
  {v:Value}(hx:CR cx.eT (aC O st loc w) (.xd n .top) v){A:aK}(hA:∀b∈(loc n).bs,∀o,¬A b o):VR cx.eT t xs A w v:=by
 have hd:mn t xs (loc n) w:=X.deep.1 (g.obj _ _ hob).2;obtain⟨e,s,rfl,hs⟩:=uB hd;exact hd.data (hx.2 _ _ hob) hA
def HC{O:aK}{st:St}{loc:Nat->Loc}{w:World}(g:Good cx.eT X (aC O st loc w)){n:Nat}{t:Ty}{xs:D t}(h:Ka st t n=some xs)
  {v:Value}(hx:CR cx.eT (aC O st loc w) (.xd n .top) v):VR cx.eT t xs O w v:=by
 unfold Ka at h;split at h
 ·rename_i t' ys hob
  split at h
  ·cases h;rename_i hb
   exact nz hb _ (PW g hob hx fun b hb o=>g.out n _ b o hob hb)
  ·cases h
 ·cases h
def PX{O:aK}{st:St}{loc:Nat->Loc}{w:World}(g:Good cx.eT X (aC O st loc w)){want:Ty}{c:C}{x:D want}{v:Value}(h:Uy st want c=some x)
  (hc:CR cx.eT (aC O st loc w) c v):VR cx.eT want x O w v:=by
 unfold Uy at h;split at h
 ·rename_i n
  split at h
  ·rename_i t xs hob
   split at h
   ·cases h;rename_i hb;exact nz hb _ (PV g hob hc)
   ·cases h
  ·cases h
 ·exact HC g h hc
 ·exact ad5 (rB h hc)
def UA{O:aK}{st:St}{loc:Nat->Loc}{w:World}(g:Good cx.eT X (aC O st loc w)):∀{t:Ty} {cs cs':List C} {x:D t} {vs:List Value},qf st t cs=some (x,cs')->fD cx.eT (aC O st loc w) cs vs->
  ∃us vs',vs=us++vs'/\R cx.eT t x O w us/\fD cx.eT (aC O st loc w) cs' vs':=by
 have one:∀{t:Ty} {c:C} {cs cs':List C} {x:D t} {vs:List Value},(match Uy st t c with|some x=>some (x,cs)|none=>none)=some (x,cs')->fD cx.eT (aC O st loc w) (c :: cs) vs->
   ∃us vs',vs=us++vs'/\R cx.eT t x O w us/\fD cx.eT (aC O st loc w) cs' vs':=by
  intro t c cs cs' x vs h hc;cases hc with
  |cons h1 h2 h3=>
   rename_i v vs0;split at h
   ·rename_i y hy
    cases h;exact⟨[v],vs0,rfl,(Cg h2 (PX g hy h1)).2,h3⟩
   ·cases h
 intro t;induction t with
 |prod a b iha ihb=>
  intro cs cs' x vs h hc;simp only[qf]at h;split at h
  ·rename_i y cs1 h1
   split at h
   ·rename_i z cs2 h2
    cases h;obtain⟨u1,v1,rfl,r1,k1⟩:=iha h1 hc;obtain⟨u2,v2,rfl,r2,k2⟩:=ihb h2 k1;exact⟨u1++u2,v2,by simp,⟨u1,u2,rfl,r1,r2⟩,k2⟩
   ·cases h
  ·cases h
 |unit=>
  intro cs cs' x vs h hc;simp only[qf]at h;cases h;exact⟨[],vs,rfl,rfl,hc⟩
 |bool=>intro cs cs' x vs h hc;cases cs with|nil=>simp[qf]at h|cons c cs=>exact one (t:=.bool) h hc
 |int k=>intro cs cs' x vs h hc;cases cs with|nil=>simp[qf]at h|cons c cs=>exact one (t:=.int k) h hc
 |str=>intro cs cs' x vs h hc;cases cs with|nil=>simp[qf]at h|cons c cs=>exact one (t:=.str) h hc
 |err=>intro cs cs' x vs h hc;cases cs with|nil=>simp[qf]at h|cons c cs=>exact one (t:=.err) h hc
 |fW=>intro cs cs' x vs h hc;cases cs with|nil=>simp[qf]at h|cons c cs=>exact one (t:=.fW) h hc
 |slice e _=>intro cs cs' x vs h hc;cases cs with|nil=>simp[qf]at h|cons c cs=>exact one (t:=.slice e) h hc
def K3{O:aK}{st:St}{loc:Nat->Loc}{w:World}(g:Good cx.eT X (aC O st loc w)){want:Ty}{c:dC}{x:D want}{v:Value}(h:Rv st want c=some x)
  (hc:jG cx.eT (aC O st loc w) c v):VR cx.eT want x O w v:=by
 cases c with
 |one c=>exact PX g h hc
 |agg cs=>
  simp only[Rv]at h;obtain⟨vs,rfl,hcs⟩:=hc;split at h
  ·cases h
  ·rename_i ho
   split at h
   ·rename_i y hy
    cases h;obtain⟨us,vs',rfl,r,k⟩:=UA g hy hcs;cases k;unfold VR;rw[if_neg (by simp[ho])];exact⟨_,rfl,by simpa using r⟩
   ·cases h
def K4{O:aK}{st:St}{loc:Nat->Loc}{w:World}(g:Good cx.eT X (aC O st loc w)):∀{ts:List Ty} {vs:List dC} {ys:HL ts} {us:List Value},Ae st ts vs=some ys->
  dE cx.eT (aC O st loc w) vs us->nE cx.eT O w ts ys us
 |[],[],_,_,_,.nil=>rfl
 |[t],[a],ys,_,h,.cons h1 .nil=>⟨_,rfl,K3 g h h1⟩
 |t :: u :: r,a :: aem,ys,_,h,.cons h1 h2=>by
  simp only[Ae]at h;split at h
  ·rename_i x xs k1 k2
   cases h;exact⟨_,_,rfl,K3 g k1 h1,K4 g k2 h2⟩
  ·cases h
 |[],_ :: _,_,_,h,_=>by simp[Ae]at h
 |[_],[],_,_,h,_=>by simp[Ae]at h
 |[_],_ :: _ :: _,_,_,h,_=>by simp[Ae]at h
 |_ :: _ :: _,[],_,_,h,_=>by simp[Ae]at h
def EW{eT:TypeId}{O:aK}{w:World}{S:bQ}(hS:S.w=w)(hA:∀b o,¬O b o->¬S.A b o):∀(ts:List Ty) (k:Nat) (xs:HL ts) (vs:List Value),nE eT O w ts xs vs->
  ∀t sv,look (wA k ts xs) t=some sv->k<=t/\∃v,vs[t-k]?=some v/\eL eT S sv v
 |[],k,xs,vs,_,t,sv,h=>by simp[wA,look]at h
 |[ty],k,x,_,⟨v,rfl,hv⟩,t,sv,h=>by
  simp only[wA,cV]at h;split at h
  ·cases h
   rename_i e;subst e;exact⟨ai _,v,by simp,VR.frame hv fun b o _ ha hc=>⟨by rw[hS];exact hc,hA b o ha⟩⟩
  ·simp[look]at h
 |ty :: u :: r,k,xs,_,⟨v,vs',rfl,hv,hr⟩,t,sv,h=>by
  simp only[wA,cV]at h;split at h
  ·cases h
   rename_i e;subst e;exact⟨ai _,v,by simp,VR.frame hv fun b o _ ha hc=>⟨by rw[hS];exact hc,hA b o ha⟩⟩
  ·obtain⟨h1,v',h2,h3⟩:=EW hS hA (u :: r) (k+1) xs.2 vs' hr t sv h
   refine⟨by omega,v',?_,h3⟩;rw[show t-k=(t-(k+1))+1 from by omega,List.getElem?_cons_succ];exact h2
def nE.length{eT:TypeId}{O:aK}{w:World}:∀{ts:List Ty} {xs:HL ts} {vs:List Value},nE eT O w ts xs vs->vs.length=ts.length
 |[],_,_,h=>by rw[show _=[]from h];rfl
 |[_],_,_,⟨_,rfl,_⟩=>rfl
 |_ :: u :: r,_,_,⟨_,_,rfl,_,h⟩=>by simp[nE.length h]
def wf:(t:Ty)->D t->Prop
 |.int k,x=>k.min<=x/\x<=k.max
 |.str,x=>x.length<=aI
 |.prod a b,x=>wf a x.1/\wf b x.2
 |.slice e,x=>x.length<=aI/\∀(i:Nat) y,x[i]?=some y->wf e y
 |_,_=>True
def eD:(ts:List Ty)->HL ts->Prop
 |[],_=>True
 |[t],x=>wf t x
 |t :: u :: r,xs=>wf t xs.1/\eD (u :: r) xs.2
def R.wf{eT:TypeId}:∀{t:Ty} {x:D t} {A:aK} {w:World} {vs:List Value},R eT t x A w vs->Vg.wf t x:=by
 intro t;induction t with
 |int k=>intro x A w vs h;exact h.2
 |str=>intro x A w vs h;exact h.2
 |prod a b iha ihb=>intro x A w vs h;obtain⟨_,_,_,h1,h2⟩:=h;exact⟨iha h1,ihb h2⟩
 |slice e ih=>
  intro x A w vs h;obtain⟨v,_,hl,h⟩:=h;refine⟨hl,fun i y hy =>?_⟩;rcases h with⟨rfl,_⟩|⟨b,o,cap,_,_,h⟩
  ·simp at hy
  ·obtain⟨us,h1,_⟩:=h i y hy;exact ih h1
 |_=>intro x A w vs h;trivial
def VR.wf{eT:TypeId}{t:Ty}{x:D t}{A:aK}{w:World}{v:Value}(h:VR eT t x A w v):Vg.wf t x:=(VR.cells h).wf
def nE.wf{eT:TypeId}{O:aK}{w:World}:∀{ts:List Ty} {xs:HL ts} {vs:List Value},nE eT O w ts xs vs->eD ts xs
 |[],_,_,_=>trivial
 |[_],_,_,⟨_,_,h⟩=>h.wf
 |_ :: _ :: _,_,_,⟨_,_,_,h,h'⟩=>⟨h.wf,nE.wf h'⟩
def Rx{B:Cx}{X:Ext}{Γ:List (FuncId×(Bool×aX))}{N:Nat}{f:FuncId}{fn:Func}{c:Code}(hok:mW P (sU B Γ N) X)(hf:P.funcs[f]?=some fn)(hb:fn.body=some c)(hn:(fn.name == "runtime.NumGoroutine")=false)
  (hN:fn.ntmps=N){ts rts:List Ty}(anns:HL ts->cU)(hts:ts.length<=N){pre:HL ts->Prop}{post:HL ts->HL rts->Prop}
  (h:∀xs,eD ts xs->pre xs->(PU B Γ N (anns xs) fn.results.toList c ts rts post xs).holds) :
  bO P B.eT X f ts rts pre post:=by
 refine⟨⟨fn,hf,by rw[hb];rfl,hn⟩,fun O w xs vs hG hO ha hp =>?_⟩;have g0:Good (sU B Γ N).eT X (aC O (sd ts xs) (fun _=>default) w):=
  ⟨fun n oc h=>by simp[aC,sd,look]at h,fun n m oc oc' b h=>by simp[aC,sd,look]at h,fun n oc b off h=>by simp[aC,sd,look]at h,hG,fun b hb ⟨n,oc,h,_⟩=>by simp[aC,sd,look]at h⟩
 have hA0:∀b o,¬O b o->¬(aC O (sd ts xs) (fun _=>default) w).A b o:=by
  rintro b o h (k|⟨n,oc,k,_⟩)
  ·exact h k
  ·simp[aC,sd,look]at k
 refine bx (vA hok hf hb hN.symm (anns xs) (by simpa[ha.length,hN]using hts) g0 hO ?_ (h xs ha.wf hp)) ?_
 ·intro t sv ht
  obtain⟨_,v,h1,h2⟩:=EW (eT:=B.eT) (S:=aC O (sd ts xs) (fun _=>default) w) rfl hA0 ts 0 xs vs ha t sv ht;exact⟨v,by simpa using h1,h2⟩
 ·rintro e w' ⟨vs',us,st',loc',rfl,h1,h2,h3,h4⟩
  split at h1
  ·rename_i ys hys
   refine⟨us,ys,rfl,h1,K4 h3 hys h2,h4.os,h4.output,h4.size,fun k hk=>h4.block k hk ?_⟩;rintro⟨n,oc,k,_⟩;simp[aC,sd,look]at k
  ·exact h1.elim
def nF:aK:=fun _ _=>False
def outer(lend:Bool)(A:aK):aK:=match lend with
 |true=>nF
 |false=>A
def K5{O:aK}{st:St}{loc:Nat->Loc}{w:World}(g:Good cx.eT X (aC O st loc w)){lend:Bool}{t:Ty}{a:dC}{x:D t}{v:Value}(h:Ru lend st t a=some x)
  (ha:jG cx.eT (aC O st loc w) a v):VR cx.eT t x (outer lend (aC O st loc w).A) w v:=by
 have base:sP t a=some x->VR cx.eT t x (outer lend (aC O st loc w).A) w v:=by
  intro h;refine VR.GG (nA h ha) fun b o k =>?_
  cases lend with
  |true=>exact id
  |false=>exact k
 unfold Ru at h;split at h
 ·rename_i e n x' heq
  unfold zI at h;simp only[Gr]at h;split at h
  ·rename_i e' ys hob
   split at h
   ·cases h;rename_i hb
    exact nz hb _ (VR.GG (PV g hob ha) fun _ _ _=>id)
   ·cases h
  ·cases h
 ·exact VR.GG (HC g h ha) fun _ _ _=>id
 ·exact base h
def HD{O:aK}{st:St}{loc:Nat->Loc}{w:World}(g:Good cx.eT X (aC O st loc w)){lend:Bool}:∀{ts:List Ty} {aem:List dC} {xs:HL ts} {vs:List Value},qe lend st ts aem=some xs->
  dE cx.eT (aC O st loc w) aem vs->nE cx.eT (outer lend (aC O st loc w).A) w ts xs vs
 |[],[],_,_,_,.nil=>rfl
 |[t],[a],xs,_,h,.cons h1 .nil=>⟨_,rfl,K5 g h h1⟩
 |t :: u :: r,a :: aem,xs,_,h,.cons h1 h2=>by
  simp only[qe]at h;split at h
  ·rename_i x xs k1 k2
   cases h;exact⟨_,_,rfl,K5 g k1 h1,HD g k2 h2⟩
  ·cases h
 |[],_ :: _,_,_,h,_=>by simp[qe]at h
 |[_],[],_,_,h,_=>by simp[qe]at h
 |[_],_ :: _ :: _,_,_,h,_=>by simp[qe]at h
 |_ :: _ :: _,[],_,_,h,_=>by simp[qe]at h
def Cy{eT:TypeId}{S:bQ}{O:aK}{w:World}(hS:S.w=w):∀{ts:List Ty} {ys:HL ts} {us:List Value},(mw ts=true\/O=S.A)->nE eT O w ts ys us->dE eT S (rI ts ys) us
 |[],_,_,_,h=>by rw[show _=[]from h];exact .nil
 |[t],y,_,hl,⟨v,rfl,hv⟩=>by
  refine .cons ?_ .nil;subst hS;rcases hl with hl|hl
  ·simp only[mw,eo]at hl
   exact VR.of_flat hl hv
  ·subst hl;exact hv
 |t :: u :: r,ys,_,hl,⟨v,vs',rfl,hv,hr⟩=>by
  refine .cons ?_ (Cy hS ?_ hr)
  ·subst hS
   rcases hl with hl|hl
   ·simp only[mw,ae]at hl
    exact VR.of_flat hl.1 hv
   ·subst hl;exact hv
  ·rcases hl with hl|hl
   ·simp only[mw,ae]at hl ⊢;exact .inl hl.2
   ·exact .inr hl
def adH{O:aK}{st:St}{loc:Nat->Loc}{w:World}{eT:TypeId}(g:Good eT X (aC O st loc w))(hO:fT O w):fT (aC O st loc w).A w:=by
 rintro b off (h|⟨n,oc,h1,h2,_⟩)
 ·exact hO b off h
 ·exact(g.obj n oc h1).2.inside b h2
def HE{eT:TypeId}{f:FuncId}{ts rts:List Ty}{pre:HL ts->Prop}{post:HL ts->HL rts->Prop}(h:bO P eT X f ts rts pre post)
  {O:aK}{st:St}{loc:Nat->Loc}{w:World}{args:List dC}{vs:List Value}{xs:HL ts}(hx:qe (mw rts) st ts args=some xs)(hp:pre xs)
  {K:SV->St->VC}(hK:∀ys,post xs ys->(K (uN (rI rts ys)) st).holds)
  (g:Good eT X (aC O st loc w))(hO:fT O w)(ha:dE eT (aC O st loc w) args vs) :
  Calls P f vs.toArray w fun e w'=>∃v sv st' loc',e=.returned v/\(K sv st').holds/\st'.env=st.env/\(true=true->Below w.heap.size w w')/\Good eT X (aC O st' loc' w')/\
   Tr (aC O st loc w) (aC O st' loc' w')/\eL eT (aC O st' loc' w') sv v:=by
 have g':Good (Cx.mk eT [] [] [] 0 [] [] [] false [] []).eT X (aC O st loc w):=g;have hOut:fT (outer (mw rts) (aC O st loc w).A) w:=by
  intro b off hb;cases hf:mw rts with
  |true=>rw[hf]at hb;exact hb.elim
  |false=>rw[hf]at hb;exact adH g hO b off hb
 refine bx (h.ok _ w xs vs g.lU.1 hOut (HD g' hx ha) hp) ?_;rintro e w' ⟨us,ys,rfl,h1,h2,h3⟩;obtain⟨t,g2⟩:=qN (S':=aC O st loc w') g rfl rfl rfl rfl h3;refine⟨_,_,st,loc,rfl,hK ys h1,rfl,fun _=>h3,g2,t,Af (Cy rfl ?_ h2)⟩;cases hf:mw rts with
 |true=>exact .inl rfl
 |false=>exact .inr (by simp only[outer];funext b off;simp[bQ.A,aC])
def EX{O:aK}{st:St}{loc:Nat->Loc}{w:World}(g:Good cx.eT X (aC O st loc w))(c:C) :
  Tr (aC O st loc w) (aC O (Ad st c).2 loc w)/\Good cx.eT X (aC O (Ad st c).2 loc w)/\(Ad st c).2.env=st.env/\
   ∀v,CR cx.eT (aC O st loc w) c v->CR cx.eT (aC O (Ad st c).2 loc w) (Ad st c).1 v:=by
 unfold Ad;split
 ·rename_i n
  split
  ·rename_i t xs hob
   obtain⟨h1,h2⟩:=oN g n;exact⟨h1,h2,rfl,fun v hv=>Cn g hob hv⟩
  ·exact⟨Tr.refl _,g,rfl,fun v hv=>hv⟩
 ·rename_i n
  split
  ·rename_i t xs hob
   obtain⟨h1,h2⟩:=oN g n;refine⟨h1,h2,rfl,fun v hv=>PW g hob hv fun b hb o =>?_⟩;rintro(hA'|⟨m,oc,k1,k2,k3⟩)
   ·exact g.out n _ b o hob hb hA'
   ·simp only[aC,bH]at k1 k2
    rw[nB]at k1;split at k1
    ·cases k1
    ·rename_i h8;exact h8 (g.apart n m _ _ b hob k1 hb k2)
  ·exact⟨Tr.refl _,g,rfl,fun v hv=>hv⟩
 ·exact⟨Tr.refl _,g,rfl,fun v hv=>hv⟩
def Cz{O:aK}{loc:Nat->Loc}{w:World}:∀(cs:List C) {st:St},Good cx.eT X (aC O st loc w)->
  Tr (aC O st loc w) (aC O (xz st cs).2 loc w)/\Good cx.eT X (aC O (xz st cs).2 loc w)/\(xz st cs).2.env=st.env/\
   ∀vs,fD cx.eT (aC O st loc w) cs vs->fD cx.eT (aC O (xz st cs).2 loc w) (xz st cs).1 vs
 |[],st,g=>⟨Tr.refl _,g,rfl,fun vs h=>h⟩
 |c :: cs,st,g=>by
  obtain⟨t1,g1,e1,k1⟩:=EX g c;obtain⟨t2,g2,e2,k2⟩:=Cz cs g1;refine⟨t1.trans t2,g2,e2.trans e1,fun vs h =>?_⟩;cases h with
  |cons h1 h2 h3=>exact .cons ((k1 _ h1).tr t2) h2 (k2 _ (h3.tr t1))
def xB{O:aK}{st:St}{loc:Nat->Loc}{w:World}(g:Good cx.eT X (aC O st loc w))(x:dC) :
  Tr (aC O st loc w) (aC O (DB st x).2 loc w)/\Good cx.eT X (aC O (DB st x).2 loc w)/\(DB st x).2.env=st.env/\
   ∀v,jG cx.eT (aC O st loc w) x v->jG cx.eT (aC O (DB st x).2 loc w) (DB st x).1 v:=by
 cases x with
 |one c=>exact EX g c
 |agg cs=>
  obtain⟨t1,g1,e1,k1⟩:=Cz cs g;exact⟨t1,g1,e1,fun v ⟨vs,h1,h2⟩=>⟨vs,h1,k1 _ h2⟩⟩
def Ry{O:aK}{st:St}{loc:Nat->Loc}{w:World}(g:Good cx.eT X (aC O st loc w))(lend:Bool)(x:dC) :
  Tr (aC O st loc w) (aC O (GI lend st x).2 loc w)/\Good cx.eT X (aC O (GI lend st x).2 loc w)/\(GI lend st x).2.env=st.env/\
   ∀v,jG cx.eT (aC O st loc w) x v->jG cx.eT (aC O (GI lend st x).2 loc w) (GI lend st x).1 v:=by
 cases lend with
 |false=>cases x <;> exact xB g _
 |true=>
  cases x with
  |one c=>exact⟨Tr.refl _,g,rfl,fun v hv=>hv⟩
  |agg cs=>exact xB g _
def EY{O:aK}{loc:Nat->Loc}{w:World}(lend:Bool):∀(xs:List dC) {st:St},Good cx.eT X (aC O st loc w)->
  Tr (aC O st loc w) (aC O (vz lend st xs).2 loc w)/\Good cx.eT X (aC O (vz lend st xs).2 loc w)/\(vz lend st xs).2.env=st.env/\
   ∀vs,dE cx.eT (aC O st loc w) xs vs->dE cx.eT (aC O (vz lend st xs).2 loc w) (vz lend st xs).1 vs
 |[],st,g=>⟨Tr.refl _,g,rfl,fun vs h=>h⟩
 |x :: xs,st,g=>by
  obtain⟨t1,g1,e1,k1⟩:=Ry g lend x;obtain⟨t2,g2,e2,k2⟩:=EY lend xs g1;refine⟨t1.trans t2,g2,e2.trans e1,fun vs h =>?_⟩;cases h with
  |cons h1 h3=>exact .cons ((k1 _ h1).tr t2) (k2 _ (h3.tr t1))
def HF{eT:TypeId}{f:FuncId}{q:Bool}{sp:aX}{lend:Bool}
  (h:∀O st loc w args vs K,(sp args st K).holds->Good eT X (aC O st loc w)->fT O w->dE eT (aC O st loc w) args vs->
   Calls P f vs.toArray w fun e w'=>∃v sv st' loc',e=.returned v/\(K sv st').holds/\st'.env=st.env/\(q=true->Below w.heap.size w w')/\Good eT X (aC O st' loc' w')/\
    Tr (aC O st loc w) (aC O st' loc' w')/\eL eT (aC O st' loc' w') sv v)
  (O:aK)(st:St)(loc:Nat->Loc)(w:World)(args:List dC)(vs:List Value)(K:SV->St->VC)(hs:(sp (vz lend st args).1 (vz lend st args).2 K).holds)
  (g:Good eT X (aC O st loc w))(hO:fT O w)(ha:dE eT (aC O st loc w) args vs) :
  Calls P f vs.toArray w fun e w'=>∃v sv st' loc',e=.returned v/\(K sv st').holds/\st'.env=st.env/\(q=true->Below w.heap.size w w')/\Good eT X (aC O st' loc' w')/\
   Tr (aC O st loc w) (aC O st' loc' w')/\eL eT (aC O st' loc' w') sv v:=by
 have g':Good (Cx.mk eT [] [] [] 0 [] [] [] false [] []).eT X (aC O st loc w):=g;obtain⟨t1,g1,e1,k1⟩:=EY lend args g';refine bx (h O _ loc w _ vs K hs g1 hO (k1 _ ha)) ?_;rintro e w' ⟨v,sv,st',loc',h1,h2,h3,h4,h5,h6,h7⟩;exact⟨v,sv,st',loc',h1,h2,h3.trans e1,h4,h5,t1.trans h6,h7⟩
def ju{eT:TypeId}{f:FuncId}{ts rts:List Ty}{pre:HL ts->Prop}{post:HL ts->HL rts->Prop}(h:bO P eT X f ts rts pre post) :
  bY P eT X f true (qq ts rts pre post):=by
 refine⟨h.fn,HF (lend:=mw rts) (sp:=fun args st K=>match qe (mw rts) st ts args with
  |some xs =>.and (pre xs) (.all (HL rts) fun ys =>.imp (post xs ys) (K (uN (rI rts ys)) st))
  |none =>.ff) fun O st loc w args vs K hs g hO ha =>?_⟩
 split at hs
 ·rename_i xs hx
  exact HE h hx hs.1 (fun ys hy=>hs.2 ys hy) g hO ha
 ·exact hs.elim
def aE{eT:TypeId}{f:FuncId}{ts rts:List Ty}{pre:HL ts->Prop}{g:HL ts->HL rts}(h:bO P eT X f ts rts pre (fun xs ys=>ys=g xs)) :
  bY P eT X f true (bX ts rts pre g):=by
 refine⟨h.fn,HF (lend:=mw rts) (sp:=fun args st K=>match qe (mw rts) st ts args with
  |some xs =>.and (pre xs) (K (uN (rI rts (g xs))) st)
  |none =>.ff) fun O st loc w args vs K hs hg hO ha =>?_⟩
 split at hs
 ·rename_i xs hx
  exact HE h hx hs.1 (fun ys hy=>by rw[hy];exact hs.2) hg hO ha
 ·exact hs.elim
def abj{B:Cx}{N:Nat}(h:TyOK P B):mW P (sU B [] N) X:=
 {fit:=h.fit,qa:=h.qa,mq:=h.mq,mixed:=h.mixed,arr:=h.arr,wY:=h.wY,eqs:=h.eqs,qm:=h.qm,su:=h.su,uC:=h.uC,calls:=fun f q sp hl=>by simp[sU,look]at hl}
def Ys{B:Cx}{Γ:List (FuncId×(Bool×aX))}{N:Nat}{f:FuncId}{q:Bool}{sp:aX}(h:bY P B.eT X f q sp)(hΓ:mW P (sU B Γ N) X):mW P (sU B ((f,q,sp) :: Γ) N) X:=
 {fit:=hΓ.fit,qa:=hΓ.qa,mq:=hΓ.mq,mixed:=hΓ.mixed,arr:=hΓ.arr,wY:=hΓ.wY,eqs:=hΓ.eqs,qm:=hΓ.qm,su:=hΓ.su,uC:=hΓ.uC,calls:=fun f' q' sp' hl=>by
   simp only[sU,cV]at hl;split at hl
   ·rename_i e;subst e;cases hl;exact h
   ·exact hΓ.calls f' q' sp' hl}
end
def Ty.plain:Ty->Bool
 |.err|.fW=>false
 |.prod a b=>a.plain&&b.plain
 |.slice e=>e.plain
 |_=>true
def Ty.low:Ty->Bool
 |.slice e=>aq 0 e.size&&e.low
 |.prod a b=>a.low&&b.low
 |_=>true
section
variable{H:Type}{enc:TypeId×Value->H}{P:Program}{w:World}{base:Nat}{sp:Nat->Bool}{held:Bool}{eT:TypeId}
def Fit.cellsOf{t:TypeId}{ty:Ty}{i:TypeInfo}{d:TypeDesc}(h:Fit P t ty i d):P.cellsOf t=ty.size:=by
 unfold Program.cellsOf;rw[h.info];exact h.size
def N1{f:TypeId->Ty->Bool}{cs:List Value}{fuel:Nat}
  (ih:∀t ty,f t ty=true->P.cellsOf t=ty.size/\∀us d ps,ty.plain=true->ty.low=true->bf enc P w base sp held fuel t us=some (d,ps)->∃x,R eT ty x nF w us) :
  ∀(gs:List Field) (off:Nat) (ty:Ty) (xs:List (DataW H×List MemPlace)),eQ f gs off ty=true->ty.plain=true->ty.low=true->
   gs.mapM (fun f=>bf enc P w base sp held fuel f.type ((cs.drop f.offset).take (P.cellsOf f.type)))=some xs->cs.length=off+ty.size->∃x,R eT ty x nF w (cs.drop off):=by
 intro gs;induction gs with
 |nil=>
  intro off ty xs h hp hs hm hl;cases ty <;> simp[eQ]at h;refine⟨(),?_⟩;show cs.drop off=[];exact List.drop_eq_nil_of_le (by simp[Ty.size]at hl;omega)
 |cons g gs ihg=>
  intro off ty xs h hp hs hm hl;cases ty <;> simp[eQ]at h;rename_i a b;obtain⟨⟨⟨h1,h2⟩,h3⟩,h4⟩:=h;simp only[Ty.plain,ae]at hp;simp only[Ty.size]at hl;rw[de]at hm;obtain⟨k1,k2⟩:=ih _ _ h2;subst h1;rw[k1]at hm;cases hx:bf enc P w base sp held fuel g.type ((cs.drop g.offset).take a.size)with
  |none=>simp[hx]at hm
  |some y=>
   cases hxs:gs.mapM (fun f=>bf enc P w base sp held fuel f.type ((cs.drop f.offset).take (P.cellsOf f.type)))with
   |none=>simp[hx,hxs]at hm
   |some ys=>
    simp only[Ty.low,ae]at hs;obtain⟨x,rx⟩:=k2 _ y.1 y.2 hp.1 hs.1 hx;obtain⟨z,rz⟩:=ihg _ _ _ h4 hp.2 hs.2 hxs (by omega);refine⟨(x,z),_,_,?_,rx,rz⟩;rw[<-List.drop_drop,List.take_append_drop]
def Rz:∀(n:Nat) (t:TypeId) (ty:Ty),fits P n t ty=true->P.cellsOf t=ty.size/\∀fuel us d ps,ty.plain=true->ty.low=true->
  bf enc P w base sp held fuel t us=some (d,ps)->∃x,R eT ty x nF w us:=by
 intro n;induction n with
 |zero=>intro t ty h;simp[fits]at h
 |succ n ih=>
  intro t ty h;obtain⟨m,i,dsc,hm,fit,hsh⟩:=mH h;cases hm;refine⟨fit.cellsOf,fun fuel us d ps hp hs hd =>?_⟩;cases fuel with
  |zero=>simp[bf]at hd
  |succ fuel=>
   unfold bf at hd;rw[fit.jK]at hd;cases ty with
   |bool=>
    cases dsc <;> simp[cT]at hsh;split at hd
    case h_1 _ _ b _=>exact⟨b,rfl⟩
    all_goals simp_all
   |int k=>
    cases dsc <;> simp[cT]at hsh;subst hsh;split at hd
    case h_2 _ _ k1 k2 x h0=>
     cases h0;split at hd
     ·rename_i h1
      obtain⟨rfl,h1⟩:=h1;simp only[Lit.wf,ae,decide_eq_true_eq]at h1;exact⟨x,rfl,h1⟩
     ·cases hd
    all_goals simp_all
   |str=>
    cases dsc <;> simp[cT]at hsh;split at hd
    case h_4 _ _ s _=>
     split at hd
     ·rename_i h1
      refine⟨s.data.toList,?_,?_⟩
      ·rw[dh]
      ·unfold maxLen at h1
       unfold aI;rw[b7];exact h1
     ·cases hd
    all_goals simp_all
   |err=>simp[Ty.plain]at hp
   |fW=>simp[Ty.plain]at hp
   |unit=>
    cases dsc <;> simp[cT]at hsh;rename_i fs;simp only at hd;split at hd
    ·rename_i hl
     rw[fit.cellsOf]at hl;refine⟨(),?_⟩;exact dr.1 hl
    ·cases hd
   |prod a b=>
    cases dsc <;> simp[cT]at hsh;rename_i fs;simp only at hd;split at hd
    ·rename_i hl
     rw[fit.cellsOf]at hl;cases hxs:fs.toList.mapM (fun f=>bf enc P w base sp held fuel f.type ((us.drop f.offset).take (P.cellsOf f.type)))with
     |none=>rw[hxs]at hd;simp at hd
     |some xs=>
      obtain⟨x,hx⟩:=N1 (fun t ty hf=>⟨(ih t ty hf).1,(ih t ty hf).2 fuel⟩) _ _ _ _ hsh hp hs hxs (by omega);exact⟨x,by simpa using hx⟩
    ·cases hd
   |slice e=>
    cases dsc <;> simp[cT]at hsh;rename_i te;simp only[Ty.low,ae]at hs;have hpos:=nR hs.1;obtain⟨hce,hel⟩:=ih te e hsh;split at hd
    case h_7=>exact⟨[],_,rfl,by simp[aI],.inl ⟨rfl,_,_,rfl⟩⟩
    case h_8 _ _ te' b l c h0=>
     cases h0;simp only at hd;split at hd
     case isFalse=>cases hd
     rename_i hcond;obtain⟨hb,hlc,hcm⟩:=hcond;obtain⟨es,hes,_⟩:=di.1 hd;rw[hce]at hes;have hlen:=mapM_some_length hes;simp only[List.length_range]at hlen;by_cases hl0:l=0
     ·subst hl0
      exact⟨[],_,rfl,by simp[aI],.inl ⟨rfl,_,_,rfl⟩⟩
     have hspot:b.spot=none:=by
      have h1:=mapM_some_get hes 0 0 (by rw[List.getElem?_range (by omega)]);rw[List.getElem?_eq_getElem (by omega)]at h1;obtain⟨us,hu,hd1⟩:=di.1 h1;obtain⟨_,q1,q2⟩:=World.cells?_some hu;have q3:=q2 0 hpos;rw[List.getElem?_eq_getElem (by omega)]at q3;have e0:(b.add (0*e.size)).add 0=b:=by simp[Addr.add]
      rw[e0]at q3;unfold World.cell? at q3;split at q3
      ·cases hb0:b.spot with
       |none=>rfl
       |some k=>rw[hb0]at q3;simp at q3
      ·cases q3
     obtain⟨bb,oo,so⟩:=b;simp only at hspot;subst hspot;have hget:∀i,i<l->∃x us,R eT e x nF w us/\Row nF w bb (oo+i*e.size) us:=by
      intro i hi;have h1:=mapM_some_get hes i i (by simp[hi]);rw[List.getElem?_eq_getElem (by omega)]at h1;obtain⟨us,hu,hd1⟩:=di.1 h1;obtain⟨_,q1,q2⟩:=World.cells?_some hu;obtain⟨x,hx⟩:=hel fuel us (es[i]'(by omega)).1 (es[i]'(by omega)).2 hp hs.2 hd1;refine⟨x,us,hx,fun j u hj=>⟨?_,id⟩⟩;have hjl:j<us.length:=by
       rcases a8 j us.length with h|h
       ·exact h
       ·rw[List.getElem?_eq_none h]at hj;cases hj
      have:=q2 j (by omega);rw[bt,bt]at this;rw[this,hj]
     let xs:List (D e):=(bz l).map fun i=>if h:i<l then(hget i h).choose else cB e
     have hxl:xs.length=l:=by simp[xs]
     have hxi:∀i y,xs[i]?=some y->∃us,R eT e y nF w us/\Row nF w bb (oo+i*e.size) us:=by
      intro i y hy;have hi:i<l:=by
       rcases a8 i l with h|h
       ·exact h
       ·rw[List.getElem?_eq_none (by omega)]at hy;cases hy
      have:xs[i]?=some (hget i hi).choose:=by simp[xs,hi]
      rw[this]at hy;cases hy;exact(hget i hi).choose_spec
     refine⟨xs,_,rfl,?_,.inr ⟨bb,oo,c,?_,?_,hxi⟩⟩
     ·rw[hxl];unfold maxLen at hcm;unfold aI;omega
     ·rw[hxl]
     ·rw[hxl];exact hlc
    all_goals simp_all
def Yt{n:Nat}{t:TypeId}{ty:Ty}(hf:fits P n t ty=true)(hp:ty.plain=true)(hlow:ty.low=true){r:Reach}{b:Nat}{v:Value}(hval:ck P w r b t v){d:DataW H}{ps:List MemPlace}
  (hd:DataW.Trod enc P w base sp held t v d ps):∃x,VR eT ty x nF w v:=by
 obtain⟨m,i,dsc,hm,fit,hsh⟩:=mH hf;obtain⟨fuel,hd⟩:=hd;have key:∃x,R eT ty x nF w v.cells.toList:=(Rz (eT:=eT) n t ty hf).2 fuel _ _ _ hp hlow hd
 unfold ck at hval;rw[fit.jK]at hval;have one:ty.one=true->b3 P w r b t v->(v.cells.toList=[v])->∃x,VR eT ty x nF w v:=by
  intro h1 h2 h3;rw[h3]at key;obtain⟨x,hx⟩:=key;exact⟨x,VR.cZ h1 hx⟩
 have agg:ty.one=false->(∃cs,v=.agg cs/\cs.size=P.cellsOf t/\Row.okWide P w r b t cs)->∃x,VR eT ty x nF w v:=by
  rintro h1 ⟨cs,rfl,_,ts,_,_,h2⟩;obtain⟨x,hx⟩:=key;refine⟨x,?_⟩;unfold VR;rw[if_neg (by simp[h1])];exact⟨cs,rfl,hx⟩
 cases ty with
 |err=>simp[Ty.plain]at hp
 |fW=>simp[Ty.plain]at hp
 |prod a b=>cases dsc <;> simp[cT]at hsh;exact agg rfl hval
 |unit=>cases dsc <;> simp[cT]at hsh;exact agg rfl hval
 |bool=>
  cases dsc <;> simp[cT]at hsh;refine one rfl hval ?_;cases v <;> simp[b3,cm,fit.jK,bw]at hval ⊢
 |int k=>
  cases dsc <;> simp[cT]at hsh;refine one rfl hval ?_;cases v <;> simp[b3,cm,fit.jK,bw]at hval ⊢
 |str=>
  cases dsc <;> simp[cT]at hsh;refine one rfl hval ?_;cases v <;> simp[b3,cm,fit.jK,bw]at hval ⊢
 |slice e=>
  cases dsc <;> simp[cT]at hsh;refine one rfl hval ?_;cases v <;> simp[b3,cm,fit.jK,bw]at hval ⊢
def wB(P:Program)(n:Nat):List TypeId->List Ty->Bool
 |[],[]=>true
 |t :: ts,ty :: tys=>fits P n t ty&&ty.plain&&ty.low&&wB P n ts tys
 |_,_=>false
def UB{n:Nat}{r:Reach}{b:Nat}:∀(ts:List TypeId) (tys:List Ty) (vs:List Value) (ds:List (DataW H)) (ps:List MemPlace),wB P n ts tys=true->
  (∀(j:Nat) t v,ts[j]?=some t->vs[j]?=some v->ck P w r b t v)->bg enc P w base sp held ts vs ds ps->∃xs,nE eT nF w tys xs vs:=by
 intro ts;induction ts with
 |nil=>
  intro tys vs ds ps hf hv h;cases tys <;> simp[wB]at hf;cases vs <;> cases ds <;> simp[bg]at h;exact⟨(),rfl⟩
 |cons t ts ih=>
  intro tys vs ds ps hf hv h;cases tys <;> simp[wB]at hf;rename_i ty tys;obtain⟨⟨⟨h1,h2⟩,h3⟩,h4⟩:=hf;cases vs <;> cases ds <;> simp[bg]at h;rename_i v vs d ds;obtain⟨p,hp,q,hq,_⟩:=h;obtain⟨x,hx⟩:=Yt (eT:=eT) h1 h2 h3 (hv 0 t v rfl rfl) hp;obtain⟨xs,hxs⟩:=ih tys vs ds q h4 (fun j t' v' h1 h2=>hv (j+1) t' v' h1 h2) hq;cases tys with
  |nil=>exact⟨x,v,by rw[show vs=[]from hxs],hx⟩
  |cons ty' tys=>exact⟨(x,xs),v,vs,rfl,hx,hxs⟩
def RA(hl:laidOutB P=true){W W':World}(hb:Below W.heap.size W W'):∀(ts:List TypeId) (vs:List Value) (ds:List (DataW H)) (ps:List MemPlace),(ts.all fun t=>P.readableRec t&&aq t P.types.size)=true->
  bg enc P W 0 (fun _=>true) true ts vs ds ps->(∀x∈ps,x.block<W.heap.size)->bg enc P W' 0 (fun b=>decide (b<W.heap.size)) true ts vs ds ps:=by
 intro ts;induction ts with
 |nil=>intro vs ds ps _ h _;cases vs <;> cases ds <;> simp[bg]at h ⊢;exact h
 |cons t ts ih=>
  intro vs ds ps hr h hlt;simp only[db,ae]at hr;cases vs <;> cases ds <;> simp only[bg]at h ⊢;rename_i v vs d ds;obtain⟨p,q,hp,hq,rfl⟩:=h;exact⟨p,q,WideElems.Trod_stays hl hr.1.1 (nR hr.1.2) hp (fun x hx=>hb.same (hlt x (by simp[hx]))) (fun x hx=>by simpa using hlt x (by simp[hx])),ih vs ds q hr.2 hq (fun x hx=>hlt x (by simp[hx])),rfl⟩
def K6:∀{ts:List TypeId} {vs:List Value} {ds:List (DataW H)} {ps:List MemPlace},bg enc P w base sp held ts vs ds ps->vs.length=ts.length/\ds.length=ts.length
 |[],[],[],_,_=>⟨rfl,rfl⟩
 |_ :: _,_ :: _,_ :: _,_,⟨_,_,_,h,_⟩=>by simp[K6 h]
def UC{X:Ext}{C:Checked}{f:FuncId}{fn:Func}{s:ChangeSpec}{tys:List Ty}{pre:HL tys->Prop}(hs:s.vars=[])(hl:laidOutB C.prog=true)
  (hsp:∀ds:List (DataW H),ds.length=tys.length->s.fn H ds= {results:=[.lit (.bool true)],args:=ds})
  {n:Nat}(hf:wB C.prog n fn.params.toList tys=true)(hr:(fn.params.toList.all fun t=>C.prog.readableRec t&&aq t C.prog.types.size)=true)
  {tb:TypeId}(hres:fn.resultTypes= #[tb])(hb:C.prog.underlying tb=some .bool)
  (h:bO C.prog eT X f tys [.bool] pre (fun _ y=>y=true))
  {W:World}{base:Nat}{args:Array Value}{ds gs:List (DataW H)}{before:List MemPlace}
  (hval:∀(j:Nat) t v,fn.params[j]?=some t->args[j]?=some v->ck C.prog W .any base t v)
  (hW:DataW.Whole enc C.prog fn.params.toList s.vars false W args.toList ds gs before)
  (hG:X.zB W)(hpre:∀xs,nE eT nF W tys xs args.toList->pre xs) :
  Calls C.prog f args W fun e W'=>∃v,e=.returned v/\s.post enc C.prog fn false true false false W args v W':=by
 have hW0:=hW;obtain⟨p,q,hA,hV,rfl,_,_⟩:=hW;rw[hs]at hV;obtain⟨rfl,rfl⟩:gs=[]/\q=[]:=by cases gs <;> simp[DataW.TrodVars]at hV;exact⟨rfl,hV⟩
 obtain⟨xs,hxs⟩:=UB (eT:=eT) _ _ _ _ _ hf (fun j t v h1 h2=>hval j t v (by rw[<-Array.getElem?_toList];exact h1) (by rw[<-Array.getElem?_toList];exact h2)) hA;have:=h.ok nF W xs args.toList hG (fun _ _ h=>h.elim) hxs (hpre xs hxs);rw[dh]at this;refine this.mono ?_;rintro e W' ⟨us,ys,rfl,rfl,hr',hbel⟩;obtain⟨u,rfl,hu⟩:=hr';have hu:u=.bool true:=by
  have:=VR.one rfl hu;simpa[R]using this
 subst hu;have hlen:ds.length=tys.length:=by
  have h1:=hxs.length;have h2:=K6 hA;omega
 simp only[cn]at hW0 ⊢;have hlt:∀x∈p,x.block<W.heap.size:=hW0.lt
 refine⟨_,rfl,ds,[],p,[],p,[],hW0,?_,?_,?_,hbel.frame _,fun hh=>by cases hh⟩
 ·rw[cn,hsp ds hlen,hres]
  exact⟨[],[],shut_bool hb true,rfl,rfl⟩
 ·rw[cn,hsp ds hlen]
  exact RA hl hbel _ _ _ _ hr hA hlt
 ·rw[cn,hsp ds hlen,hs]
  rfl
end
def holds_of{v:VC}{p:Prop}(e:v.holds=p)(h:p):v.holds:=by rw[e];exact h
section
variable{A B:Prop}
def iD{p:Prop}[Decidable p](f:p->A)(g:¬p->B):(decide p=true->A)/\(decide p=false->B):=⟨fun h=>f (of_decide_eq_true h),fun h=>g (of_decide_eq_false h)⟩
def iL{a b:Int}(f:a<b->A)(g:b<=a->B):(decide (a<b)=true->A)/\(decide (a<b)=false->B):=iD f fun h=>g (Int.not_lt.1 h)
def iE{a b:Int}(f:a<=b->A)(g:b<a->B):(decide (a<=b)=true->A)/\(decide (a<=b)=false->B):=iD f fun h=>g (Int.not_le.1 h)
def iB{b:Bool}(f:b=false->A)(g:b=true->B):((!b)=true->A)/\((!b)=false->B):=⟨fun h=>f (bd b▸h),fun h=>g (Bool.not_eq_false' b▸h)⟩
def iQ{α:Type}[BEq α][LawfulBEq α]{a b:α}(f:a=b->A)(g:¬a=b->B):((a == b)=true->A)/\((a == b)=false->B):=⟨fun h=>f (eq_of_beq h),fun h=>g fun e=>by rw[e,beq_self_eq_true]at h;cases h⟩
def iN{α:Type}[BEq α][LawfulBEq α]{a b:α}(f:¬a=b->A)(g:a=b->B):((a != b)=true->A)/\((a != b)=false->B):=
 ⟨fun h=>f fun e=>(by rw[e,bne_self_eq_false]at h;cases h),fun h=>g (by simpa using h)⟩
end
def adI:Ext where
 rel k t x l w:=match k with
  |0=>mn t x l w
  |1=>vo t x l w
  |2=>wW t x l w
  |_=>False
 inside {k t x l w} h:=by
  match k,h with
  |0,h=>exact mn.inside h
  |1,h=>exact vo.inside h
  |2,h=>exact wW.inside h
 ptr {k t x l w} hk h:=by
  match k,hk,h with
  |0,hk,_=>omega
  |1,hk,_=>omega
  |2,_,h=>obtain⟨rfl,b,p,v,h⟩:=h;exact⟨_,h.lv⟩
 deep:=Iff.rfl
 map:=Iff.rfl
 TZ:=Iff.rfl
 frame {k t x l w w'} h hb:=by
  match k,h with
  |0,h=>exact mn.frame h hb
  |1,h=>exact vo.frame h hb
  |2,h=>exact wW.frame h hb
 zB _:=True
 Hi:=[]
 Ki _ _ hb:=by cases hb
 Ep _ _:=trivial
def codeOf(fn:Func):Code:=fn.body.getD .skip
def cL(B:Cx)(Γ:List (FuncId×(Bool×aX)))(fn:Func)(anns:cU)(ts rts:List Ty)(post:HL ts->HL rts->Prop)(xs:HL ts):VC:=
 PU B Γ fn.ntmps anns fn.results.toList (codeOf fn) ts rts post xs
def q7(fn:Func)(n:Nat):Bool:=fn.body.isSome&&!(fn.name == "runtime.NumGoroutine")&&Nat.ble n fn.ntmps
def bL(P:Program)(B:Cx)(X:Ext)(Γ:List (FuncId×(Bool×aX))):Prop:=∀N,mW P (sU B Γ N) X
section
variable{P:Program}{B:Cx}{X:Ext}{Γ:List (FuncId×(Bool×aX))}
def bP{f:FuncId}{fn:Func}{ts rts:List Ty}{pre:HL ts->Prop}{post:HL ts->HL rts->Prop}(hok:bL P B X Γ)(hf:P.funcs[f]?=some fn)(hc:q7 fn ts.length=true)
  (anns:HL ts->cU)(h:∀xs,eD ts xs->pre xs->(cL B Γ fn (anns xs) ts rts post xs).holds):bO P B.eT X f ts rts pre post:=by
 simp only[q7,ae,bd]at hc;obtain⟨⟨h1,h2⟩,h3⟩:=hc;refine Rx (hok fn.ntmps) hf (c:=codeOf fn) ?_ h2 rfl anns (er h3) h;unfold codeOf;cases hb:fn.body with
 |none=>rw[hb]at h1;cases h1
 |some c=>rfl
def bJ(h:TyOK P B):bL P B X []:=fun _=>abj h
def aM{f:FuncId}{q:Bool}{sp:aX}(h:bY P B.eT X f q sp)(hΓ:bL P B X Γ):bL P B X ((f,q,sp) :: Γ):=fun N=>Ys h (hΓ N)
def jl(B:Cx)(l:List Nat):Cx:={B with hint:=l}
def bL.hint{l:List Nat}(h:bL P B X Γ):bL P (jl B l) X Γ:=fun N=>
 {fit:=(h N).fit,qa:=(h N).qa,mq:=(h N).mq,mixed:=(h N).mixed,arr:=(h N).arr,wY:=(h N).wY,eqs:=(h N).eqs,qm:=(h N).qm,su:=(h N).su,uC:=(h N).uC,calls:=(h N).calls}
def RB(B:Cx):Cx:={B with wr:=true}
def bL.wrap(h:bL P B X Γ):bL P (RB B) X Γ:=fun N=>
 {fit:=(h N).fit,qa:=(h N).qa,mq:=(h N).mq,mixed:=(h N).mixed,arr:=(h N).arr,wY:=(h N).wY,eqs:=(h N).eqs,qm:=(h N).qm,su:=(h N).su,uC:=(h N).uC,calls:=(h N).calls}
def tU{α:Type}{l:List (Nat×α)}{n:Nat}{x:α}(h:look l n=some x):(n,x)∈l:=by
 induction l with
 |nil=>cases h
 |cons p r ih=>
  obtain⟨m,y⟩:=p;rw[cV]at h;split at h
  ·rename_i e;subst e;cases h;simp
  ·exact List.mem_cons_of_mem _ (ih h)
def UD(P:Program)(B:Cx)(n:Nat):Bool:=
 (B.τ.all fun p=>fits P n p.1 p.2)&&
 (match P.underlying B.eT with|some (.int .i64)=>true|_=>false)&&
 (match P.info? B.eT with|some i=>(match i.zero with|some (.int .i64 0)=>true|_=>false)|none=>false)&&
 P.follows .mixedOrders&&
 (B.Dd.all fun p=>match P.underlying p.1 with|some (.array m e)=>ab m p.2.1&&ab e p.2.2|_=>false)&&
 (B.Dd.all fun p=>match look B.τ p.2.2 with
  |some e=>(match P.info? p.1 with
   |some i=>(match i.zero with
    |some z=>rA e p.2.1 z.cells.toList
    |none=>false)
   |none=>false)
  |none=>true)&&
 B.eqs.all (Q7 P)&&B.qm.all (Ko P)&&
 (B.su.all fun p=>match P.underlying p.1 with
  |some (.map k e)=>ab k p.2.1&&ab e p.2.2&&(match P.underlying p.2.1 with|some .string=>true|_=>false)&&
   (match P.info? p.2.2 with
    |some i=>(match i.zero with|some (.agg _)=>true|_=>false)
    |none=>false)
  |_=>false)&&
 (B.uC.all fun p=>match P.info? p.1 with
  |some i=>(match i.zero with
   |some (.agg cs)=>(match cs.toList with
    |[.pointer none,.slice none 0 0]=>true
    |_=>false)
   |_=>false)
  |none=>false)
def abk{n:Nat}(h:UD P B n=true):TyOK P B:=by
 simp only[UD,ae,cf]at h;obtain⟨⟨⟨⟨⟨⟨⟨⟨⟨h1,h2⟩,h3⟩,h4⟩,h5⟩,h6⟩,h7⟩,h8⟩,h9⟩,h10⟩:=h;refine⟨fun t ty hl=>⟨n,h1 _ (tU hl)⟩,?_,?_,h4,fun t ht=>h7 t (xk ht),fun t ht=>h8 t (xk ht),fun t m e hl =>?_,fun t k e hl =>?_,fun t e hl =>?_,fun t m te e hl he =>?_⟩
 ·split at h2
  ·assumption
  ·cases h2
 ·split at h3
  ·rename_i i hi
   refine⟨i,hi,?_⟩;split at h3
   ·assumption
   ·cases h3
  ·cases h3
 ·have:=h5 _ (tU hl)
  simp only at this;split at this
  ·rename_i m' e' hu
   simp only[ae]at this;rw[hu,ah this.1,ah this.2]
  ·cases this
 ·have:=h9 _ (tU hl)
  simp only at this;split at this
  ·rename_i k' e' hu
   simp only[ae]at this;obtain⟨⟨⟨e1,e2⟩,e3⟩,e4⟩:=this;rw[hu,ah e1,ah e2];refine⟨rfl,?_,?_⟩
   ·split at e3
    ·assumption
    ·cases e3
   ·split at e4
    ·rename_i i hi
     split at e4
     ·rename_i cs hz;exact⟨i,cs,hi,hz⟩
     ·cases e4
    ·cases e4
  ·cases this
 ·have:=h10 _ (tU hl)
  simp only at this;split at this
  ·rename_i i hi
   split at this
   ·rename_i cs hz
    split at this
    ·rename_i hr
     exact⟨i,hi,by rw[hz];congr 2;exact aj.1 hr⟩
    ·cases this
   ·cases this
  ·cases this
 ·have:=h6 _ (tU hl)
  simp only[he]at this;split at this
  ·rename_i i hi
   split at this
   ·rename_i z hz
    exact⟨i,z,hi,hz,this⟩
   ·cases this
  ·cases this
end
def rJ:Nat->List dC->List (Nat×SV)
 |_,[]=>[]
 |k,a :: r=>(k,.s a) :: rJ (k+1) r
def iS(B:Cx)(Γ:List (FuncId×(Bool×aX)))(fn:Func)(anns:cU):aX:=fun args st K=>
 match Nat.ble args.length fn.ntmps with
 |true=>Rw (sU B Γ fn.ntmps) anns fn.results.toList (codeOf fn) {env:=rJ 0 args,aH:=st.aH,next:=st.next} fun vs st'=>K (uN vs) {st' with env:=st.env}
 |false =>.ff
def vB{eT:TypeId}{S:bQ}:∀{args:List dC} {vs:List Value} (k:Nat),dE eT S args vs->∀t sv,look (rJ k args) t=some sv->k<=t/\∃v,vs[t-k]?=some v/\eL eT S sv v:=by
 intro args;induction args with
 |nil=>intro vs k _ t sv h;simp[rJ,look]at h
 |cons a r ih=>
  intro vs k hr t sv h;cases hr with
  |cons h1 h2=>
   simp only[rJ,cV]at h;split at h
   ·rename_i e
    cases h;subst e;exact⟨ai _,_,by simp,h1⟩
   ·rename_i e
    obtain⟨k1,v,k2,k3⟩:=ih (k+1) h2 t sv h;refine⟨by omega,v,?_,k3⟩;rw[show t-k=(t-(k+1))+1 by omega];simpa using k2
def gz{P:Program}{B:Cx}{X:Ext}{Γ:List (FuncId×(Bool×aX))}(hok:bL P B X Γ){f:FuncId}{fn:Func}(hf:P.funcs[f]?=some fn)(hg:q7 fn 0=true)(anns:cU) :
  bY P B.eT X f false (iS B Γ fn anns):=by
 simp only[q7,ae,bd]at hg;obtain⟨⟨h1,h2⟩,_⟩:=hg;obtain⟨c,hc⟩:=Option.isSome_iff_exists.1 h1;refine⟨⟨fn,hf,by rw[hc];rfl,h2⟩,fun O st loc w args vs K hK g hO ha =>?_⟩;unfold iS at hK;split at hK
 case h_2=>exact hK.elim
 rename_i hlen;have hlen:=er hlen;have hcode:codeOf fn=c:=by unfold codeOf;rw[hc];rfl
 rw[hcode]at hK;have:=vA (X:=X) (hok fn.ntmps) hf hc (by rfl) anns (O:=O) (loc:=loc) (w:=w) (args:=vs.toArray)
  (st:={env:=rJ 0 args,aH:=st.aH,next:=st.next}) (by rw[bu,<-ha.len];exact hlen) g hO
  (fun t sv h=>by
   obtain⟨_,v,k1,k2⟩:=vB 0 ha t sv h;exact⟨v,by simpa using k1,k2⟩) hK
 refine this.mono ?_;rintro e w' ⟨rs,us,st',loc',he,hk,hr,g',tr⟩;exact⟨_,_,_,loc',he,hk,rfl,(fun h=>by cases h),g',tr,Af hr⟩
def RC(st:St)(t k:Nat):Nat:=
 match look st.env t with
 |some (.s (.one (.fn _ caps)))=>caps.getD k 0
 |_=>0
def Yu(ty:Ty)(st:St)(n:Nat):D ty:=
 match look st.aH n with
 |some (.cells _ cs)=>match oA ty cs with
  |some (x,_)=>x
  |none=>cB ty
 |_=>cB ty
def mf:List Cl->St->List dC->List dC×St
 |.d _ :: r,st,v :: vs=>match DB st v with
  |(v',st1)=>match mf r st1 vs with
   |(vs',st2)=>(v' :: vs',st2)
 |.obj _ :: r,st,v :: vs=>match mf r st vs with
  |(vs',st2)=>(v :: vs',st2)
 |.iX :: r,st,v :: vs=>match mf r st vs with
  |(vs',st2)=>(v :: vs',st2)
 |_,st,vs=>(vs,st)
def sC:List (Nat×OC)->List Nat->List (Nat×OC)
 |l,[]=>l
 |l,n :: r=>sC (tM l n) r
def px:Ob->Ob->Bool
 |.box T _,.box T' _=>ab T T'
 |.ext k t,.ext k' t'=>ab k k'&&Ty.beq t t'
 |.row true t,.row true t'=>Ty.beq t t'
 |_,_=>false
def ox:List Ob->List Ob->List Nat->Nat->List Nat
 |o :: os,o' :: os',n :: ns,b=>(match px o o' with|true=>n|false=>b) :: ox os os' ns (b+1)
 |_,_ :: os',_,b=>b :: ox [] os' [] (b+1)
 |_,[],_,_=>[]
def GJ:Nat->List Ob->List Ob->List (Nat×Nat)
 |k,o :: os,o' :: os'=>match px o o' with
  |true=>(k,k) :: GJ (k+1) os os'
  |false=>GJ (k+1) os os'
 |_,_,_=>[]
def xC:Nat->List Ob->List Ob->List Nat->Bool
 |k,o :: os,o' :: os',n :: ns=>(match px o o' with|true=>ab n k|false=>true)&&xC (k+1) os os' ns
 |_,_,_,_=>true
structure Alt (aU:List Ob) (args:List Cl):Type 1 where
 cv:Bool:=false
 bS:List Ob
 res:List Cl
 ok:CD args->PD aU->Prop:=fun _ _=>True
 out:CD args->PD aU->PD bS
 ret:CD args->PD aU->CD res
section
variable{aU:List Ob}{args:List Cl}
def Kb(al:Alt aU args)(a:CD args)(x:PD aU)(ν:List Nat)(st:St)(K:SV->St->VC):VC:=
 match nodupB (ox aU al.bS ν st.next)&&lJ (st.next+al.bS.length) (ox aU al.bS ν st.next)with
 |true =>.imp (al.ok a x) (K (uN (zY (iw al.bS (al.out a x) (ox aU al.bS ν st.next)) al.res (al.ret a x)))
   {env:=st.env,aH:=mQ (iw al.bS (al.out a x) (ox aU al.bS ν st.next)) al.bS (al.out a x) (ox aU al.bS ν st.next)++sC st.aH ν,next:=st.next+al.bS.length})
 |false =>.ff
def Ag(a:CD args)(x:PD aU)(ν:List Nat)(st:St)(K:SV->St->VC):List (Alt aU args)->VC
 |[] =>.leaf True
 |[al]=>Kb al a x ν st K
 |al :: al2 :: r =>.both (Kb al a x ν st K) (Ag a x ν st K (al2 :: r))
def aW(aU:List Ob)(args:List Cl)(pre:CD args->PD aU->Prop)(alts:List (Alt aU args)):aX:=fun aem st K=>
 match mf args st aem with
 |(aem,st)=>match aaJ aU args aem st.aH []with
  |some ν=>match nodupB ν,nC false st.aH aU ν args aem,fE false st.aH aU ν aU ν with
   |true,some a,some x=>Yo (nS aU x args aem++jX aU x st.aH aU ν) (.and (pre a x) (Ag a x ν st K alts))
   |_,_,_ =>.ff
  |none =>.ff
def mh(aU:List Ob)(args:List Cl)(a:CD args)(x:PD aU):St:=
 {env:=rJ 0 (zY (iw aU x (upto 0 aU.length)) args a),aH:=mQ (iw aU x (upto 0 aU.length)) aU x (upto 0 aU.length),next:=aU.length}
def uO(a:CD args)(x:PD aU)(vs:List dC)(st:St):List (Alt aU args)->VC
 |[] =>.ff
 |al :: r=>match mf al.res st vs with
  |(vs',st')=>match aaJ al.bS al.res vs' st'.aH (GJ 0 aU al.bS)with
   |some ν=>match nodupB ν&&(xC 0 aU al.bS ν&&(!al.cv || (uK aU&&(iv al.bS&&la al.res)))),nC al.cv st'.aH al.bS ν al.res vs',fE al.cv st'.aH al.bS ν al.bS ν with
    |true,some b,some y =>.leaf (KW (nS al.bS y al.res vs'++jX al.bS y st'.aH al.bS ν++[al.ok a x/\y=al.out a x/\b=al.ret a x]))
    |_,_,_=>uO a x vs st r
   |none=>uO a x vs st r
def cO(B:Cx)(Γ:List (FuncId×(Bool×aX)))(fn:Func)(anns:cU)(aU:List Ob)(args:List Cl)(alts:List (Alt aU args))(a:CD args)(x:PD aU):VC:=
 Rw (sU B Γ fn.ntmps) anns fn.results.toList (codeOf fn) (mh aU args a x) fun vs st'=>uO a x vs st' alts
def fM:(cls:List Cl)->CD cls->Prop
 |[],_=>True
 |.d t :: r,x=>wf t x.1/\fM r x.2
 |.obj _ :: r,x=>fM r x
 |.iX :: r,x=>fM r x
end
section
variable{eT:TypeId}{X:Ext}
def sV{k:Nat}:∀{l:List Nat} {n:Nat},lJ k l=true->n∈l->n<k
 |[],_,_,h=>by simp at h
 |m :: r,n,h,hn=>by
  simp only[lJ,ae]at h;rcases ag.1 hn with e|hn
  ·rw[e];exact nR h.1
  ·exact sV h.2 hn
def og(m:Nat):∀(ns:List Nat) (l:List (Nat×OC)),look (sC l ns) m=if m∈ns then none else look l m
 |[],l=>by simp[sC]
 |n :: r,l=>by
  simp only[sC];rw[og m r,nB];by_cases h1:m∈r
  ·simp[h1]
  ·by_cases h2:n=m
   ·subst h2;simp
   ·have:¬m=n:=fun e=>h2 e.symm
    simp[h1,h2,this]
def sE:∀{aU bS:List Ob} {ν:List Nat} {b i n:Nat},(ox aU bS ν b)[i]?=some n->
  (∃o o',aU[i]?=some o/\bS[i]?=some o'/\px o o'=true/\ν[i]?=some n)\/b<=n
 |aU,[],ν,b,i,n,h=>by
  cases aU <;> cases ν <;> simp[ox]at h
 |[],o' :: os',ν,b,i,n,h=>by
  simp only[ox]at h;cases i with
  |zero=>simp at h;exact .inr (by omega)
  |succ i=>
   rcases sE (aU:=[]) (ν:=[]) (by simpa using h)with⟨o,_,h1,_⟩|h1
   ·simp at h1
   ·exact .inr (by omega)
 |o :: os,o' :: os',[],b,i,n,h=>by
  simp only[ox]at h;cases i with
  |zero=>simp at h;exact .inr (by omega)
  |succ i=>
   rcases sE (aU:=[]) (ν:=[]) (by simpa using h)with⟨o,_,h1,_⟩|h1
   ·simp at h1
   ·exact .inr (by omega)
 |o :: os,o' :: os',n0 :: ns,b,i,n,h=>by
  simp only[ox]at h;cases i with
  |zero=>
   simp only[List.getElem?_cons_zero,dc]at h;split at h
   ·rename_i hk;exact .inl ⟨o,o',rfl,rfl,hk,by simp[h]⟩
   ·exact .inr (by omega)
  |succ i=>
   rcases sE (by simpa using h)with⟨a,a',h1,h2,h3⟩|h1
   ·exact .inl ⟨a,a',by simpa using h1,by simpa using h2,by simpa using h3⟩
   ·exact .inr (by omega)
def rL:∀{aU bS:List Ob} {ν:List Nat} {b:Nat},(ox aU bS ν b).length=bS.length
 |aU,[],ν,b=>by cases aU <;> cases ν <;> rfl
 |[],o' :: os',ν,b=>by simp[ox,rL]
 |o :: os,o' :: os',[],b=>by simp[ox,rL]
 |o :: os,o' :: os',n0 :: ns,b=>by simp[ox,rL]
def EZ:∀{aU bS:List Ob} {ν:List Nat} {k i n:Nat} {o o':Ob},xC k aU bS ν=true->aU[i]?=some o->bS[i]?=some o'->px o o'=true->ν[i]?=some n->n=k+i
 |[],_,_,_,_,_,_,_,_,h,_,_,_=>by simp at h
 |_ :: _,[],_,_,_,_,_,_,_,_,h,_,_=>by simp at h
 |_ :: _,_ :: _,[],_,_,_,_,_,_,_,_,_,h=>by simp at h
 |a :: os,a' :: os',m :: ns,k,0,n,o,o',h,h1,h2,h3,h4=>by
  simp at h1 h2 h4;subst h1;subst h2;subst h4;simp only[xC,h3,ae]at h;have:=ah h.1;omega
 |a :: os,a' :: os',m :: ns,k,i+1,n,o,o',h,h1,h2,h3,h4=>by
  simp only[xC,ae]at h;have:=EZ h.2 (by simpa using h1) (by simpa using h2) h3 (by simpa using h4);omega
def HG:∀{l:List Ob} {o:Ob} {t:Ty},uK l=true->o∈l->o≠.tok t
 |[],_,_,_,h=>by simp at h
 |a :: r,o,t,h,ho=>by
  rcases ag.1 ho with e|ho
  ·subst e;intro e;subst e;simp[uK]at h
  ·exact HG (by cases a <;> simp_all [uK]) ho
def BU{S:bQ}{F:Nat->Value->Prop}:∀{cls:List Cl} {x:CD cls} {vs:List Value},vu eT S F cls x vs->fM cls x
 |[],_,_,_=>trivial
 |.d t :: r,x,v :: vs,h=>⟨h.1.wf,BU h.2⟩
 |.obj k :: r,x,v :: vs,h=>BU (cls:=r) h.2
 |.iX :: r,x,v :: vs,h=>BU (cls:=r) h.2
def xD{S:bQ}{F:Nat->Value->Prop}:∀{cls:List Cl} {x:CD cls} {vs:List Value},vu eT S F cls x vs->vs.length=cls.length
 |[],_,_,h=>by rw[show _=[]from h];rfl
 |.d t :: r,x,v :: vs,h=>by simp[xD h.2]
 |.obj k :: r,x,v :: vs,h=>by simp[xD (cls:=r) h.2]
 |.iX :: r,x,v :: vs,h=>by simp[xD (cls:=r) h.2]
def xE{O:aK}{loc:Nat->Loc}{w:World}:∀(cls:List Cl) (xs:List dC) {st:St},Good eT X (aC O st loc w)->
  Tr (aC O st loc w) (aC O (mf cls st xs).2 loc w)/\Good eT X (aC O (mf cls st xs).2 loc w)/\(mf cls st xs).2.env=st.env/\
   ∀vs,dE eT (aC O st loc w) xs vs->dE eT (aC O (mf cls st xs).2 loc w) (mf cls st xs).1 vs:=by
 intro cls;induction cls with
 |nil=>intro xs st g;exact⟨Tr.refl _,g,rfl,fun vs h=>h⟩
 |cons cl r ih=>
  intro xs st g;cases xs with
  |nil=>cases cl <;> exact⟨Tr.refl _,g,rfl,fun vs h=>h⟩
  |cons x xs=>
   cases cl with
   |d t=>
    have g':Good (Cx.mk eT [] [] [] 0 [] [] [] false [] []).eT X (aC O st loc w):=g;obtain⟨t1,g1,e1,k1⟩:=xB g' x;obtain⟨t2,g2,e2,k2⟩:=ih xs g1;refine⟨t1.trans t2,g2,e2.trans e1,fun vs h =>?_⟩;cases h with
    |cons h1 h3=>exact .cons ((k1 _ h1).tr t2) (k2 _ (h3.tr t1))
   |obj k=>
    obtain⟨t2,g2,e2,k2⟩:=ih xs g;refine⟨t2,g2,e2,fun vs h =>?_⟩;cases h with
    |cons h1 h3=>exact .cons (h1.tr t2) (k2 _ h3)
   |iX=>
    obtain⟨t2,g2,e2,k2⟩:=ih xs g;refine⟨t2,g2,e2,fun vs h =>?_⟩;cases h with
    |cons h1 h3=>exact .cons (h1.tr t2) (k2 _ h3)
end
end Go.Vg

