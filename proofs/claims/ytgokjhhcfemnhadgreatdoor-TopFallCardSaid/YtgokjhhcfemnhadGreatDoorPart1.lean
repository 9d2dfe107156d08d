/- A part of the proof that the law TopFallCard holds of the given program: facts that are used there. -/
import Derived.Test.YtgokjhhcfemnhadGreatDoorPart0
import Derived.Maps.RangeRun
import Derived.Laws.BytesString
import Derived.Lib.ConvBytes
import Derived.Deep.LoopGhost
import Derived.ProofKit
import Derived.KernelRfl
set_option linter.unusedSimpArgs false
set_option linter.unusedVariables false
set_option linter.defProp false
noncomputable section
open True renaming intro->aa
open Nat renaming beq->ab,eq_of_beq_eq_true->ag,le_refl->ai,blt->ao,zero_add->aw,lt_of_lt_of_le->ay,lt_or_ge->a7,beq_refl->bg,add_mul->b9,testBit_two_pow->cd,testBit_or->cf,beq_eq->ch,testBit_and->cj,mul_le_mul_right->cu,mul_one->cy,add_zero->cz,one_shiftLeft->c7,le_of_ble_eq_true->dd,eq_of_testBit_eq->eg
open List renaming length->ad,mem_cons->ah,mem_of_getElem?->ax,mem_append->a8,length_append->bh,size_toArray->bu,range->bz,all_eq_true->b3,length_map->ca,append_nil->cp,filter_cons->cr,foldl_cons->cw,all_cons->db,map_congr_left->dc,mapM_cons->de,length_eq_zero_iff->dr,replicate->dx,length_singleton->ed,mem_range->ef,length_cons->eh,range'_succ->ei,range_eq_range'->ej,mem_filterMap->er
open Bool renaming and_eq_true->ae,false_eq_true->az,not_eq_true'->bc,eq_iff_iff->bk,or_eq_true->cg,not_true->ct,and_true->ep
open Go.Sem renaming run_bind->af,run_pure->ak
open Array renaming toList_inj->aj,getD_eq_getD_getElem?->ba,length_toList->b8,toArray_toList->dh,toList_push->dq,size_append->du,toList_map->dy,replicate->en
open Go.Region renaming binds->al,wanted->ar,ready->au,noSelect->ee
open Go.Result renaming andThen_ok->aq
open Go.Instr renaming findNow->av,loadAt->ck,alloc->c6,sureAddr->df,lookup->dk,mapUpdate->dm,keyThatStays->dn,makeFunc->dz
open Go.DataW renaming trod->bd,TrodAll->bf
open Go.Oper renaming wp->bj,upon->c8,wp_mono->da
open Go.MapKept renaming run_getObj_map->bm,run_findKey->bo,run_setObj_map->b5,bytes_beq->dj
open Option renaming map_some->bp,getD_some->bq,bind_eq_some_iff->di,map_eq_some_iff->eo
open Go.ChangeMaps renaming setBlock->br
open Go.Addr renaming add_lit->bt
open Go.Value renaming cells->bw,okWide->cm
open Go.Calls renaming mono->bx
open Go.Cell renaming okWide->b4,ok->cn
open Int.ofNat renaming inj->b6
open Go.Builtin renaming append_->b7,delete_->cq,zeroCells->dt,max2->dv,min2->dw,max_->dT,min_->ec
open Go.IntKind renaming u8->cb
open Int renaming lt_add_one_of_le->dp
open Option.some renaming injEq->ek
namespace Go.Vg
open Go.RowKit
def cZ(e:Ty):List (D (ja e))->List UInt8->Bool
 |[],_=>false
 |y :: r,k=>if y.1=k then true else cZ e r k
def jc(e:Ty):List (D (ja e))->List UInt8->D e
 |[],_=>bY e
 |y :: r,k=>if y.1=k then y.2.1 else jc e r k
def eZ(e:Ty):List (D (ja e))->List UInt8->D e->Int->List (D (ja e))
 |[],k,v,c=>[(k,v,c,())]
 |y :: r,k,v,c=>if y.1=k then(k,v,y.2.2) :: r else y :: eZ e r k v c
def fW(e:Ty):List (D (ja e))->List UInt8->List (D (ja e))
 |[],_=>[]
 |y :: r,k=>if y.1=k then r else y :: fW e r k
def mT(e:Ty)(es:List (D (ja e)))(k:List UInt8)(c:Int):Int:=if cZ e es k=true then c else c+1
def Lh(e:Ty):List (D (ja e))->Int->D (ja e)
 |[],_=>bY (ja e)
 |y :: r,s=>if y.2.2.1=s then y else Lh e r s
def BP(e:Ty):List (D (ja e))->Int->Bool
 |[],_=>false
 |y :: r,s=>if y.2.2.1=s then true else BP e r s
def yi(e:Ty)(es:List (D (ja e)))(seen:List Int):List (D (ja e)):=es.filter fun y =>!(seen.contains y.2.2.1)
def yj(l:List Int):Int:=l.getLastD 0
def rY(cx:Cx)(st:St)(t:TypeId)(c:C)(K:(e:Ty)->Nat->D (jb e)->VC):VC:=
 match c with
 |.eW n=>match look cx.qE t with
  |some (_,te)=>match look cx.τ te,look st.aF n with
   |some e,some (.ext 1 t' x)=>match h:Ty.beq t' (jb e),e.one with
    |true,false=>K e n (cJ h x)
    |_,_ =>.ff
   |_,_ =>.ff
  |none =>.ff
 |_ =>.ff
def Xp:Ty->Option Ty
 |.prod (.slice (.prod _ (.prod e _))) _=>some e
 |_=>none
def BQ(st:St)(c:C)(K:(e:Ty)->Nat->List C->List Int->Int->D (jb e)->VC):VC:=
 match c with
 |.eW k=>match look st.aF k with
  |some (.iter [.eW n] seen cl)=>match look st.aF n with
   |some (.ext 1 t' x)=>match Xp t' with
    |some e=>match h:Ty.beq t' (jb e)with
     |true=>K e k [.eW n] seen cl (cJ h x)
     |false =>.ff
    |none =>.ff
   |_ =>.ff
  |_ =>.ff
 |_ =>.ff
def O1(st:St)(c:C)(K:SV->St->VC):VC:=
 BQ st c fun e k cs seen cl d =>.and (d.2.1=cl) (.both
  (.imp (yi e d.1 seen=[]) (K (.mP [.one (.lit false)]) st))
  (.all (D (ja e)) fun y =>.imp (y∈yi e d.1 seen) (K (.mP [.one (.lit true),.one (.d .str y.1),.one (.d e y.2.1)]) (setObj st k (.iter cs (seen++[y.2.2.1]) cl)))))
def BR(cx:Cx)(st:St)(o:Oper)(K:SV->St->VC):Option VC:=
 match o.op with
 |.makeMap t none=>some (match look cx.qE t with
  |some (_,te)=>match look cx.τ te with
   |some e=>match e.fH with
    |true=>K (.s (.one (.eW st.next))) (fresh st (.ext 1 (jb e) ([],0,())))
    |false =>.ff
   |none =>.ff
  |none =>.ff)
 |.lookup t m x true=>some (rY cx st t (eE st.env m) fun e _ d=>match sC .str (eE st.env x)with
  |some k=>K (.mP [.one (.d e (jc e d.1 k)),.one (.d .bool (cZ e d.1 k))]) st
  |none =>.ff)
 |.mapUpdate t m x v=>some (rY cx st t (eE st.env m) fun e n d=>match sC .str (eE st.env x),qY e (rj st.env v)with
  |some k,some y =>.and (d.1.length<aM) (K (.s (.one .any)) (setObj st n (.ext 1 (jb e) (eZ e d.1 k y d.2.1,mT e d.1 k d.2.1,()))))
  |_,_ =>.ff)
 |.range t m=>some (rY cx st t (eE st.env m) fun _ n d=>K (.s (.one (.eW st.next))) (fresh st (.iter [.eW n] [] d.2.1)))
 |.next it false=>some (O1 st (eE st.env it) K)
 |.entry it=>some (BQ st (eE st.env it) fun e _ _ seen cl d =>.and (d.2.1=cl) (.and (seen≠[]) (.and (BP e d.1 (yj seen)=true)
   (K (.mP [.one (.d .str (Lh e d.1 (yj seen)).1),.one (.d e (Lh e d.1 (yj seen)).2.1)]) st))))
 |.call c=>match c.callee with
  |.builtin .delete=>match c.args.toList,c.argTypes.toList with
   |[m,x],t :: _=>some (rY cx st t (eE st.env m) fun e n d=>match sC .str (eE st.env x)with
    |some k=>K (.s (.one .any)) (setObj st n (.ext 1 (jb e) (fW e d.1 k,d.2.1,())))
    |none =>.ff)
   |_,_=>some .ff
  |.builtin .len=>match c.args.toList,c.argTypes.toList with
   |[x],[t]=>match look cx.qE t with
    |some _=>some (rY cx st t (eE st.env x) fun _ _ d=>K (.s (.one (.d (.int .i64) (d.1.length:Int)))) st)
    |none=>none
   |_,_=>none
  |_=>none
 |_=>none
def tX{e:Ty}{e1 e2:TypeId}{x:D e}{A A':aH}{w w':World}{v:Value}(hs:e.fH=true)(h:VR e1 e x A w v):VR e2 e x A' w' v:=by
 unfold VR at h ⊢;by_cases c:e.one=true
 ·rw[if_pos c]at h ⊢;exact ke hs h
 ·rw[if_neg c]at h ⊢;obtain⟨cs,h1,h2⟩:=h;exact⟨cs,h1,ke hs h2⟩
def Aj.to{e:Ty}(hs:e.fH=true){y:D (ja e)}{m:MapEntry}{w w':World}(h:Aj e y m w):Aj e y m w':=⟨h.key,tX hs h.val,h.born⟩
def jv.to{e:Ty}(hs:e.fH=true){w w':World}:∀{x:List (D (ja e))} {ms:List MapEntry},jv e x ms w->jv e x ms w'
 |[],[],_=>trivial
 |_ :: _,_ :: _,⟨h1,h2⟩=>⟨h1.to hs,h2.to hs⟩
 |[],_ :: _,h=>h.elim
 |_ :: _,[],h=>h.elim
def jv.len{e:Ty}{w:World}:∀{x:List (D (ja e))} {ms:List MapEntry},jv e x ms w->x.length=ms.length
 |[],[],_=>rfl
 |_ :: _,_ :: _,⟨_,h2⟩=>by simp[h2.len]
 |[],_ :: _,h=>h.elim
 |_ :: _,[],h=>h.elim
def tq.inside{t:Ty}{x:D t}{l:Loc}{w:World}(h:tq t x l w):∀b∈l.bs,b<w.heap.size:=by
 obtain⟨e,_,b,es,fE,hm⟩:=h;intro b' hb';rw[hm.bs]at hb';simp at hb';subst hb';exact(Array.getElem?_eq_some_iff.1 hm.heap).1
def tq.frame{t:Ty}{x:D t}{l:Loc}{w w':World}(h:tq t x l w)(hb:∀b∈l.bs,w'.heap[b]?=w.heap[b]?):tq t x l w':=by
 obtain⟨e,ht,b,es,fE,hm⟩:=h;exact⟨e,ht,b,es,fE,hm.fH,hm.lv,hm.bs,by rw[hb b (by rw[hm.bs];simp)];exact hm.heap,hm.fE,hm.tp.to hm.fH,hm.aM,hm.old⟩
def Va(a b:List UInt8):((⟨a.toArray⟩:ByteArray) == ⟨b.toArray⟩)=decide (a=b):=by
 rw[bk,dj];simp
def sJ{e:Ty}{w:World}{k:List UInt8}(hk:k.length<=aM):∀{x:List (D (ja e))} {ms:List MapEntry} (i:Nat),jv e x ms w->
  (cZ e x k=false/\jc e x k=bY e/\av .string (.string ⟨k.toArray⟩) ms i=some none/\(∀v c,eZ e x k v c=x++[(k,v,c,())])/\fW e x k=x)\/
  (cZ e x k=true/\∃j m,ms[j]?=some m/\av .string (.string ⟨k.toArray⟩) ms i=some (some (i+j,m.val))/\VR 0 e (jc e x k) UI w m.val/\m.key=.string ⟨k.toArray⟩/\
   (∀v u c,VR 0 e v UI w u->jv e (eZ e x k v c) (ms.set j {m with key:=.string ⟨k.toArray⟩,val:=u}) w)/\(∀v c,(eZ e x k v c).length=x.length)/\(∀v c,∀y∈eZ e x k v c,∃y'∈x,y.2.2.1=y'.2.2.1)/\
   jv e (fW e x k) (ms.eraseIdx j) w/\(∀y∈fW e x k,y∈x)/\(fW e x k).length<=x.length)
 |[],[],i,_ =>.inl ⟨rfl,rfl,rfl,fun _ _=>rfl,rfl⟩
 |y :: r,m :: ms,i,⟨h1,h2⟩=>by
  have hkey:Instr.sameNow .string (.string ⟨k.toArray⟩) m.key=some (decide (y.1=k)):=by
   rw[h1.key.1];show some _=_;rw[Va];congr 1;rw[bk];simp[eq_comm]
  by_cases c:y.1=k
  ·right
   refine⟨by simp[cZ,c],0,m,rfl,by simp[av,hkey,c],by simp[jc,c];exact h1.val,by rw[h1.key.1,c],fun v u cc hv =>?_,fun v cc =>?_,fun v cc y' hy' =>?_,?_,fun y' hy' =>?_,?_⟩
   ·rw[eZ,if_pos c];exact⟨⟨⟨rfl,hk⟩,hv,h1.born⟩,h2⟩
   ·rw[eZ,if_pos c];rfl
   ·rw[eZ,if_pos c]at hy'
    rcases ah.1 hy' with rfl|hy'
    ·exact⟨y,by simp,rfl⟩
    ·exact⟨y',by simp[hy'],rfl⟩
   ·rw[fW,if_pos c];exact h2
   ·rw[fW,if_pos c]at hy';simp[hy']
   ·rw[fW,if_pos c];simp
  ·rcases sJ hk (i+1) h2 with⟨k1,k2,k3,k4,k5⟩|⟨k1,j,m',k2,k3,k4,k5,k6,k7,k8,k9,k10,k11⟩
   ·left
    refine⟨by simp[cZ,c,k1],by simp[jc,c,k2],by simp[av,hkey,c,k3],fun v cc=>by simp[eZ,c,k4],by simp[fW,c,k5]⟩
   ·right
    refine⟨by simp[cZ,c,k1],j+1,m',by simpa using k2,by simp[av,hkey,c,k3];omega,by simpa[jc,c]using k4,k5,fun v u cc hv =>?_,fun v cc =>?_,fun v cc y' hy' =>?_,?_,fun y' hy' =>?_,?_⟩
    ·rw[eZ,if_neg c];exact⟨h1,k6 v u cc hv⟩
    ·rw[eZ,if_neg c];simp[k7]
    ·rw[eZ,if_neg c]at hy'
     rcases ah.1 hy' with rfl|hy'
     ·exact⟨y',by simp,rfl⟩
     ·obtain⟨y2,h3,h4⟩:=k8 v cc y' hy'
      exact⟨y2,by simp[h3],h4⟩
    ·rw[fW,if_neg c];exact⟨h1,k9⟩
    ·rw[fW,if_neg c]at hy'
     rcases ah.1 hy' with rfl|hy'
     ·simp
     ·simp[k10 y' hy']
    ·rw[fW,if_neg c];simp;omega
 |[],_ :: _,_,h=>h.elim
 |_ :: _,[],_,h=>h.elim
def jv.snoc{e:Ty}{w:World}{y:D (ja e)}{m:MapEntry}(hy:Aj e y m w):∀{x:List (D (ja e))} {ms:List MapEntry},jv e x ms w->jv e (x++[y]) (ms++[m]) w
 |[],[],_=>⟨hy,aa⟩
 |_ :: _,_ :: _,⟨h1,h2⟩=>⟨h1,h2.snoc hy⟩
 |[],_ :: _,h=>h.elim
 |_ :: _,[],h=>h.elim
section
variable{X:Ext}{P:Program}{cx:Cx}
def Ed{O:aH}{st:St}{loc:Nat->Loc}{w w':World}{n b:Nat}{oc oc':OC}(g:Good cx.eT X (aA O st loc w))(hO:eX O w)
  (hob:look st.aF n=some oc)(ig:(loc n).bs=[b])(hk:aW (loc n) (loc n) oc oc')(h0:oc.lo=0)(h0':oc'.lo=0)(hos:w'.os=w.os)(hout:w'.output=w.output)(hsz:w'.heap.size=w.heap.size)
  (hoth:∀b',b'≠b->w'.heap[b']?=w.heap[b']?) :
  Tr (aA O st loc w) (aA O (setObj st n oc') loc w')/\
   (OR cx.eT X (aA O (setObj st n oc') loc w') (loc n) oc'->Good cx.eT X (aA O (setObj st n oc') loc w')):=by
 refine pU (S:=aA O st loc w) (S':=aA O (setObj st n oc') loc w') (n:=n) (oc:=oc) (oc':=oc') (l':=loc n) g rfl hO hob
  (fun m=>oL st n m oc') (fun m =>?_) rfl (fun _=>ov rfl) hk hos hout (by simp[aA,hsz]) ?_ ?_ ?_
 ·show loc m=_
  by_cases e:n=m
  ·rw[if_pos e,e]
  ·rw[if_neg e];rfl
 ·intro b' _ hb'
  exact hoth b' (fun e=>hb' (by simp only[aA];rw[ig,e];simp))
 ·intro b' o v _ ho;rw[h0]at ho;omega
 ·intro b' hb';exact .inl ⟨hb',by omega⟩
structure UK (cx:Cx) (P:Program) (S:bI) (st:St) (t:TypeId) (v:Value) (e:Ty) (n:Nat) (d:D (jb e)) where
 kt:TypeId
 te:TypeId
 b:Nat
 es:Array MapEntry
 fE:Nat
 iC:P.underlying t=some (.map kt te)
 key:P.underlying kt=some .string
 fit:look cx.τ te=some e
 one:e.one=false
 ob:S.ob n=some (.ext 1 (jb e) d)
 val:v=.map (some b)
 md:GI e d (S.loc n) S.w b es fE
 zero:∃i cs,P.info? te=some i/\i.zero=some (.agg cs)
def Li{e:Ty}{x:D (jb e)}{l:Loc}{w:World}(h:tq (jb e) x l w):∃b es fE,GI e x l w b es fE:=by
 obtain⟨e',he,h⟩:=h;have:e=e':=by injection he with h1 _;injection h1 with h1;injection h1 with _ h1;injection h1
 subst this;exact h
theorem pn(hok:TyOK P cx){O:aH}{st:St}{loc:Nat->Loc}{w:World}(g:Good cx.eT X (aA O st loc w)){t:TypeId}{c:C}{v:Value}{K:(e:Ty)->Nat->D (jb e)->VC}(hc:CR cx.eT (aA O st loc w) c v)
  (h:(rY cx st t c K).holds):∃e n d,(K e n d).holds/\Nonempty (UK cx P (aA O st loc w) st t v e n d):=by
 unfold rY at h;split at h
 case h_2=>exact h.elim
 rename_i n;split at h
 case h_2=>exact h.elim
 rename_i kt te hm;obtain⟨h1,h2,h3⟩:=hok.qE _ _ _ hm;split at h
 case h_2=>exact h.elim
 rename_i e t' x hte hob;split at h
 case h_2=>exact h.elim
 rename_i hb ho;have:=Ty.eq_of_beq hb;subst this;obtain⟨b,es,fE,hd⟩:=Li (X.map.1 (g.obj _ _ hob).2);exact⟨e,n,_,h,⟨⟨kt,te,b,es,fE,h1,h2,hte,ho,by rw[jR];exact hob,(hc.2 _ hob rfl).trans hd.lv,by rw[jR];exact hd,h3⟩⟩⟩
def Dj{S:bI}{c:C}{k:List UInt8}{v:Value}(h:sC .str c=some k)(hc:CR cx.eT S c v):v=.string ⟨k.toArray⟩/\k.length<=aM:=by
 have:=VR.one rfl (pW h hc);obtain⟨h1,h2⟩:=this;exact⟨by simpa using h1,h2⟩
def wH{kt:TypeId}(hk:P.underlying kt=some .string)(em:Bool)(s:ByteArray)(w:World):(Instr.checkKey em 10000 kt (.string s)).run P w=.ok () w:=
 Go.MapKept.run_checkKey (d:=.string) hk (by simp[Go.MapKept.IsKey]) em 9999
def sK{t kt te:TypeId}(hu:P.underlying t=some (.map kt te))(hk:P.underlying kt=some .string){w:World}{b fE:Nat}{es:Array MapEntry}(hb:w.heap[b]?=some (.map es fE)){s:ByteArray}{r:Option (Nat×Value)}
  (hr:av .string (.string s) es.toList 0=some r){z:Value}(hz:(zeroValue te).run P w=.ok z w) :
  (dk t (.map (some b)) (.string s) true).run P w=.ok (.tuple #[match r with|some (_,v)=>v|none=>z,.bool r.isSome]) w:=by
 unfold dk;simp only[af,run_underlying hu,aq,bm hb,wH hk,ak,bo hk hr];cases r with
 |none=>simp[hz]
 |some p=>rfl
def My:∀{e:Ty},e.fH=true->qn e=true:=by
 intro e;induction e with
 |prod a b iha ihb=>intro h;simp[Ty.fH]at h;simp[qn,iha h.1,ihb h.2]
 |slice e _=>intro h;simp[Ty.fH]at h
 |gG=>intro h;simp[Ty.fH]at h
 |err=>intro h;simp[Ty.fH]at h
 |_=>intro _;rfl
def Sz(hok:TyOK P cx){S:bI}{st:St}{t:TypeId}{v:Value}{e:Ty}{n:Nat}{d:D (jb e)}(m:UK cx P S st t v e n d)(w:World):∃z,(zeroValue m.te).run P w=.ok z w/\∀eT A w',VR eT e (bY e) A w' z:=by
 obtain⟨_,ti,_,hf,_⟩:=fJ hok m.fit;obtain⟨z,hz,hzr⟩:=hf.zero;obtain⟨i,cs,hi,hc⟩:=m.zero;rw[hf.info]at hi;cases hi;rw[hz]at hc;cases hc;have hno:=My m.md.fH;refine⟨.agg cs,by simp[zeroValue,typeInfo,hf.info,hz],fun eT A w' =>?_⟩;unfold VR;rw[if_neg (by rw[m.one];simp)];exact⟨cs,rfl,BK hzr hno⟩
def Gd{es:Array MapEntry}{j:Nat}{m:MapEntry}(f:MapEntry->MapEntry)(h:es.toList[j]?=some m):(es.modify j f).toList=es.toList.set j (f m):=by
 have h':es[j]?=some m:=by rw[<-Array.getElem?_toList];exact h
 rw[Array.toList_modify];exact Go.ChangeMaps.modify_eq_set f es.toList j m h
def sL{t kt te:TypeId}(hu:P.underlying t=some (.map kt te))(hk:P.underlying kt=some .string){w:World}{b fE:Nat}{es:Array MapEntry}(hb:w.heap[b]?=some (.map es fE)){s:ByteArray}{v:Value}
  {es':Array MapEntry}{clk':Nat}(h:(av .string (.string s) es.toList 0=some none/\es'=es.push {key:=.string s,val:=v,born:=fE}/\clk'=fE+1)\/
   ∃j m,av .string (.string s) es.toList 0=some (some (0+j,m.val))/\es.toList[j]?=some m/\m.key=.string s/\es'=es.modify j (fun e=>{e with key:=.string s,val:=v})/\clk'=fE) :
  (dm t (.map (some b)) (.string s) v).run P w=.ok () {w with heap:=w.heap.setIfInBounds b (.map es' clk')}:=by
 unfold dm;simp only[af,run_underlying hu,aq,bm hb,wH hk];rcases h with⟨h1,rfl,rfl⟩|⟨j,m,h1,h2,h3,rfl,rfl⟩
 ·rw[bo hk h1]
  simp only[aq];exact b5 _ hb
 ·rw[bo hk h1]
  have hm:es[j]?=some m:=by rw[<-Array.getElem?_toList];exact h2
  have hs:(dn (.string s) (.string s)).run P w=.ok (.string s) w:=by
   unfold dn;rw[if_pos (by simp only[Instr.sameBits];exact(dj s s).2 rfl)];rfl
  simp only[aq,aw,hm,bp,bq,h3,af,hs];exact b5 _ hb
def sM{t kt te ty:TypeId}{ats:Array TypeId}(hat:ats[0]?=some t)(hu:P.underlying t=some (.map kt te))(hk:P.underlying kt=some .string){w:World}{b fE:Nat}{es:Array MapEntry}(hb:w.heap[b]?=some (.map es fE)){s:ByteArray}
  {es':Array MapEntry}(h:(av .string (.string s) es.toList 0=some none/\es'=es)\/∃j v,av .string (.string s) es.toList 0=some (some (0+j,v))/\es'=es.eraseIdxIfInBounds j) :
  (cq ats ty #[.map (some b),.string s]).run P w=.ok (.tuple #[]) {w with heap:=w.heap.setIfInBounds b (.map es' fE)}:=by
 unfold cq;simp only[hat,List.getElem?_toArray,List.getElem?_cons_zero,List.getElem?_cons_succ,af,run_underlying hu,aq,bm hb,wH hk];rcases h with⟨h1,rfl⟩|⟨j,v,h1,rfl⟩
 ·rw[bo hk h1]
  simp only[aq,af,b5 _ hb,ak]
 ·rw[bo hk h1]
  simp only[aq,aw,af,b5 _ hb,ak]
def SA{w:World}{b:Nat}{o:Obj}(hb:b<w.heap.size):({w with heap:=w.heap.setIfInBounds b o}:World).heap[b]?=some o:=by
 simp[hb]
def J3{w:World}{b b':Nat}{o:Obj}(h:b'≠b):({w with heap:=w.heap.setIfInBounds b o}:World).heap[b']?=w.heap[b']?:=by
 simp only[Array.getElem?_setIfInBounds];rw[if_neg (fun e=>h e.symm)]
def map_set{O:aH}{st:St}{loc:Nat->Loc}{w:World}(g:Good cx.eT X (aA O st loc w))(hO:eX O w){e:Ty}{n b fE clk':Nat}{es es':Array MapEntry}{d:D (jb e)}
  (hob:look st.aF n=some (.ext 1 (jb e) d))(hm:GI e d (loc n) w b es fE){xs:List (D (ja e))}{c':Int}(hc:c'=(clk':Int))(hents:jv e xs es'.toList w)(hbig:xs.length<=aM)(hold:∀y∈xs,y.2.2.1<c') :
  Tr (aA O st loc w) (aA O (setObj st n (.ext 1 (jb e) (xs,c',()))) loc {w with heap:=w.heap.setIfInBounds b (.map es' clk')})/\
   Good cx.eT X (aA O (setObj st n (.ext 1 (jb e) (xs,c',()))) loc {w with heap:=w.heap.setIfInBounds b (.map es' clk')}):=by
 have hlt:b<w.heap.size:=(Array.getElem?_eq_some_iff.1 hm.heap).1;obtain⟨t1,g1⟩:=Ed (w':={w with heap:=w.heap.setIfInBounds b (.map es' clk')}) (oc':=.ext 1 (jb e) (xs,c',())) g hO hob hm.bs ⟨rfl,rfl⟩ rfl rfl rfl rfl (by simp) (fun b' hb'=>J3 hb');exact⟨t1,g1 (X.map.2 ⟨e,rfl,b,es',clk',hm.fH,hm.lv,hm.bs,SA hlt,hc,hents.to hm.fH,hbig,hold⟩)⟩
def SB{e:Ty}{xs:List (D (ja e))}{k:List UInt8}{v:D e}{c:Int}(h1:cZ e xs k=false)(h2:∀v c,eZ e xs k v c=xs++[(k,v,c,())])(hold:∀y∈xs,y.2.2.1<c):∀y∈eZ e xs k v c,y.2.2.1<mT e xs k c:=by
 intro y hy;rw[h2]at hy;unfold mT;rw[h1];simp only[az,if_false];rcases a8.1 hy with hy|hy
 ·have h3:(y.2.2.1:Int)<c:=hold y hy
  exact dp (Int.le_of_lt h3)
 ·simp at hy;subst hy;exact dp (Int.le_refl _)
def Lj{e:Ty}{w:World}:∀{x:List (D (ja e))} {ms:List MapEntry} {s:Nat},jv e x ms w->BP e x (s:Int)=true->∃m,ms.find? (fun m=>m.born == s)=some m/\Aj e (Lh e x (s:Int)) m w
 |y :: r,m :: ms,s,⟨h1,h2⟩,hb=>by
  by_cases c:m.born=s
  ·have c':y.2.2.1=(s:Int):=by rw[h1.born,c]
   exact⟨m,by simp[c],by rw[Lh,if_pos c'];exact h1⟩
  ·have c':¬y.2.2.1=(s:Int):=fun h=>c (b6 (h1.born.symm.trans h))
   rw[BP,if_neg c']at hb;obtain⟨m',h3,h4⟩:=Lj h2 hb;exact⟨m',by simp[c,h3],by rw[Lh,if_neg c'];exact h4⟩
 |[],[],_,_,hb=>by simp[BP]at hb
def Ee{e:Ty}{w:World}{sn:Array Nat}:∀{x:List (D (ja e))} {ms:List MapEntry},jv e x ms w->jv e (yi e x (sn.toList.map fun(n:Nat)=>(n:Int))) (ms.filter fun m =>!sn.contains m.born) w
 |[],[],_=>trivial
 |y :: r,m :: ms,⟨h1,h2⟩=>by
  have hc:(sn.toList.map fun(n:Nat)=>(n:Int)).contains y.2.2.1=sn.contains m.born:=by
   rw[bk,h1.born];simp only[List.contains_iff_mem,List.mem_map,Array.mem_toList_iff,Array.contains_iff_mem];exact⟨fun⟨a,h3,h4⟩=>by rw[<-b6 h4];exact h3,fun h=>⟨_,h,rfl⟩⟩
  have ih:=Ee (sn:=sn) h2;unfold yi at ih ⊢;rw[cr,cr,hc];cases sn.contains m.born with
  |true=>simp only[ct,az,if_false];exact ih
  |false=>simp only[Bool.not_false,if_true];exact⟨h1,ih⟩
 |[],_ :: _,h=>h.elim
 |_ :: _,[],h=>h.elim
def Ay{e:Ty}{w:World}:∀{x:List (D (ja e))} {ms:List MapEntry} {m:MapEntry},jv e x ms w->m∈ms->∃y∈x,Aj e y m w
 |y :: _,_ :: _,m,⟨h1,h2⟩,hm=>by
  rcases ah.1 hm with rfl|hm
  ·exact⟨y,by simp,h1⟩
  ·obtain⟨y',h3,h4⟩:=Ay h2 hm
   exact⟨y',by simp[h3],h4⟩
 |[],[],_,_,hm=>by simp at hm
structure WC (S:bI) (v:Value) (e:Ty) (k:Nat) (cs:List C) (seen:List Int) (cl:Int) (d:D (jb e)) where
 n:Nat
 b:Nat
 r:Nat
 es:Array MapEntry
 fE:Nat
 c:Nat
 sn:Array Nat
 ob:S.ob n=some (.ext 1 (jb e) d)
 it:S.ob k=some (.iter cs seen cl)
 val:v=.pointer (some ⟨r,0,none⟩)
 md:GI e d (S.loc n) S.w b es fE
 hr:S.w.heap[r]?=some (.mapIter (some b) c sn c)
 fV:cl=(c:Int)
 Ef:seen=sn.toList.map fun(n:Nat)=>(n:Int)
 ig:(S.loc k).bs=[r]
 XB:(S.loc k).v=.pointer (some ⟨r,0,none⟩)
theorem BS{O:aH}{st:St}{loc:Nat->Loc}{w:World}(g:Good cx.eT X (aA O st loc w)){c:C}{v:Value}{K:(e:Ty)->Nat->List C->List Int->Int->D (jb e)->VC}(hc:CR cx.eT (aA O st loc w) c v)
  (h:(BQ st c K).holds):∃e k cs seen cl d,(K e k cs seen cl d).holds/\(∃m,cs=[.eW m])/\Nonempty (WC (aA O st loc w) v e k cs seen cl d):=by
 unfold BQ at h;split at h
 case h_2=>exact h.elim
 rename_i k;split at h
 case h_2=>exact h.elim
 rename_i n seen cl hk;split at h
 case h_2=>exact h.elim
 rename_i t' x hob;split at h
 case h_2=>exact h.elim
 rename_i e hun;split at h
 case h_2=>exact h.elim
 rename_i hb;have:=Ty.eq_of_beq hb;subst this;obtain⟨b,es,fE,hd⟩:=Li (X.map.1 (g.obj _ _ hob).2);obtain⟨r,m,c,sn,h1,h2,h3,h4,h5,h6⟩:=(g.obj _ _ hk).2;have hmb:m=b:=by
  cases h4 with
  |cons h7 _ _=>
   have:=(h7.2 _ hob rfl).trans hd.lv;cases this;rfl
 subst hmb;exact⟨e,k,_,seen,cl,_,h,⟨n,rfl⟩,⟨⟨n,m,r,es,fE,c,sn,by rw[jR];exact hob,hk,(hc.2 _ hk rfl).trans h1,by rw[jR];exact hd,h3,h5,h6,h2,h1⟩⟩⟩
def G7{S:bI}{eT:TypeId}{y:List UInt8}{v:Value}(h:v=.string ⟨y.toArray⟩/\y.length<=aM):iz eT S (.one (.d .str y)) v:=by
 show VR eT .str y S.A S.w v;rw[h.1];exact VR.cI rfl ⟨rfl,h.2⟩
def Vb{S:bI}{eT:TypeId}{n:Nat}(h:n<=aM):dO eT S (.s (.one (.d (.int .i64) (n:Int)))) (.int .i64 (n:Int)):=by
 show VR eT (.int .i64) (n:Int) S.A S.w _;refine VR.cI rfl ⟨rfl,?_⟩;rw[GH]at h;show(-9223372036854775808:Int)<=(n:Int)/\(n:Int)<=9223372036854775807;omega
def G8{S:bI}{eT:TypeId}{x b:Bool}(h:x=b):iz eT S (.one (.d .bool x)) (.bool b):=by
 subst h;show VR eT .bool x S.A S.w (.bool x);exact VR.cI rfl rfl
def J4(hok:TyOK P cx){O:aH}{st:St}{loc:Nat->Loc}{w:World}{a:Act}(g:Good cx.eT X (aA O st loc w))(hO:eX O w)(he:gD cx.eT (aA O st loc w) st.env a)
  {o:Oper}{K:SV->St->VC}{vc:VC}(hm:BR cx st o K=some vc)(h:vc.holds) :
  ∃sv v st' loc' w',(K sv st').holds/\st'.env=st.env/\Good cx.eT X (aA O st' loc' w')/\Tr (aA O st loc w) (aA O st' loc' w')/\dO cx.eT (aA O st' loc' w') sv v/\
   ((execOp a.eval o).run P w=.ok (.value v) w'\/((execOp a.eval o).run P w=.ok .skip w'/\sv=.s (.one .any))):=by
 unfold BR at hm;split at hm
 ·rename_i t hop
  cases hm;split at h
  case h_2=>exact h.elim
  rename_i k te hmp;split at h
  case h_2=>exact h.elim
  rename_i e hte;split at h
  case h_2=>exact h.elim
  rename_i hs;have hb:Below w.heap.size w (w.alloc (.map #[] 0)):=(Below.refl _ w).alloc (ai _) _;obtain⟨tr1,g1⟩:=gT (oc:=.ext 1 (jb e) ([],0,())) (l:=⟨.map (some w.heap.size),[w.heap.size]⟩) g hO hb (by simp);have g1:=g1 (X.map.2 ⟨e,rfl,w.heap.size,#[],0,hs,rfl,rfl,heap_alloc_new w _,rfl,aa,by simp,fun y hy=>by simp at hy⟩);refine⟨_,.map (some w.heap.size),_,_,_,h,rfl,g1,tr1,⟨by show st.next<st.next+1;omega,fun oc hoc _=>by simp[aA,bU]⟩,.inl ?_⟩;simp[execOp,hop,Instr.makeMap]
 ·rename_i t m x hop
  cases hm;obtain⟨e,n,d,h1,⟨M⟩⟩:=pn (P:=P) hok g (bN he m) h;split at h1
  case h_2=>exact h1.elim
  rename_i k hk;obtain⟨hv,hl⟩:=Dj hk (bN he x);obtain⟨z,hz,hzr⟩:=Sz hok M w;rcases sJ hl 0 M.md.tp with⟨k1,k2,k3,k4,k5⟩|⟨k1,j,m',k2,k3,k4,k5,_⟩
  ·refine⟨_,.tuple #[z,.bool false],st,loc,w,h1,rfl,g,Tr.refl _,⟨[z,.bool false],rfl,.cons (by rw[k2];exact hzr _ _ _) (.cons (G8 k1) .nil)⟩,.inl ?_⟩
   have hrun:=sK (w:=w) M.iC M.key M.md.heap k3 hz;simp only[execOp,hop,af,M.val,hv];rw[hrun];rfl
  ·refine⟨_,.tuple #[m'.val,.bool true],st,loc,w,h1,rfl,g,Tr.refl _,⟨[m'.val,.bool true],rfl,.cons (tX M.md.fH k4) (.cons (G8 k1) .nil)⟩,.inl ?_⟩
   have hrun:=sK (w:=w) M.iC M.key M.md.heap k3 hz;simp only[execOp,hop,af,M.val,hv];rw[hrun];rfl
 ·rename_i t m x v hop
  cases hm;obtain⟨e,n,d,h1,⟨M⟩⟩:=pn (P:=P) hok g (bN he m) h;split at h1
  case h_2=>exact h1.elim
  rename_i k y hk hy;obtain⟨hbig,h1⟩:=h1;obtain⟨hv,hl⟩:=Dj hk (bN he x);have hvy:VR 0 e y UI w (a.eval v):=tX M.md.fH (lS hy (lr he v));rcases sJ hl 0 M.md.tp with⟨k1,k2,k3,k4,k5⟩|⟨k1,j,m',k2,k3,k4,k5,k6,k7,k8,_⟩
  ·obtain⟨t1,g1⟩:=map_set (es':=M.es.push {key:=.string ⟨k.toArray⟩,val:=a.eval v,born:=M.fE}) (clk':=M.fE+1) g hO M.ob M.md (xs:=eZ e d.1 k y d.2.1) (c':=mT e d.1 k d.2.1)
    (by unfold mT;rw[k1,M.md.fE];rfl) (by rw[k4,dq];exact jv.snoc ⟨⟨rfl,hl⟩,hvy,M.md.fE⟩ M.md.tp) (by rw[k4];simp;omega) (SB k1 k4 M.md.old)
   refine⟨_,.nilFunc,_,loc,_,h1,rfl,g1,t1,aa,.inr ⟨?_,rfl⟩⟩;have hrun:=sL (w:=w) M.iC M.key M.md.heap (v:=a.eval v) (.inl ⟨k3,rfl,rfl⟩);simp only[execOp,hop,af,M.val,hv];rw[hrun];rfl
  ·obtain⟨t1,g1⟩:=map_set (es':=M.es.modify j (fun e=>{e with key:=.string ⟨k.toArray⟩,val:=a.eval v})) (clk':=M.fE) g hO M.ob M.md (xs:=eZ e d.1 k y d.2.1) (c':=mT e d.1 k d.2.1)
    (by unfold mT;rw[k1,M.md.fE];rfl) (by rw[Gd _ k2];exact k6 y (a.eval v) _ hvy) (by rw[k7];exact M.md.aM) (fun y' hy'=>by
     obtain⟨y2,h3,h4⟩:=k8 _ _ y' hy';rw[h4];unfold mT;rw[k1];exact M.md.old y2 h3)
   refine⟨_,.nilFunc,_,loc,_,h1,rfl,g1,t1,aa,.inr ⟨?_,rfl⟩⟩;have hrun:=sL (w:=w) M.iC M.key M.md.heap (v:=a.eval v) (.inr ⟨j,m',k3,k2,k5,rfl,rfl⟩);simp only[execOp,hop,af,M.val,hv];rw[hrun];rfl
 ·rename_i t m hop
  cases hm;have hc0:=bN he m;obtain⟨e,n,d,h1,⟨M⟩⟩:=pn (P:=P) hok g hc0 h;have hb:Below w.heap.size w (w.alloc (.mapIter (some M.b) M.fE #[] M.fE)):=(Below.refl _ w).alloc (ai _) _;obtain⟨tr1,g1⟩:=gT (oc:=.iter [.eW n] [] d.2.1) (l:=⟨.pointer (some ⟨w.heap.size,0,none⟩),[w.heap.size]⟩) g hO hb (by simp);have hx:CR cx.eT (aA O st loc w) (.eW n) (.map (some M.b)):=⟨(g.obj _ _ M.ob).1,fun oc hoc _=>M.md.lv.symm⟩;have g1:=g1 ⟨w.heap.size,M.b,M.fE,#[],rfl,rfl,heap_alloc_new w _,.cons (hx.tr tr1) rfl .nil,M.md.fE,rfl⟩;refine⟨_,.pointer (some ⟨w.heap.size,0,none⟩),_,_,_,h1,rfl,g1,tr1,⟨by show st.next<st.next+1;omega,fun oc hoc _=>by simp[aA,bU]⟩,.inl ?_⟩;have hu:=M.iC;have hh:w.heap[M.b]?=some (.map M.es M.fE):=M.md.heap;have hgo:(getObj M.b).run P w=.ok (.map M.es M.fE) w:=bm hh;simp only[execOp,hop,M.val,Instr.range,af,run_underlying hu,aq,hgo,ak];rfl
 ·rename_i it hop
  cases hm;unfold O1 at h;obtain⟨e,k,cs,seen,cl,d,h1,⟨n0,rfl⟩,⟨M⟩⟩:=BS g (bN he it) h;obtain⟨fV,h1,h2⟩:=h1;have hcc:M.fE=M.c:=b6 (M.md.fE.symm.trans (fV.trans M.fV));have hold:∀x∈M.es.toList,x.born<M.c:=fun x hx=>by
   obtain⟨y,hy,hyr⟩:=Ay M.md.tp hx;have h3:=M.md.old y hy;rw[hyr.born,M.md.fE,hcc]at h3;exact Int.ofNat_lt.1 h3
  have hleft:jv e (yi e d.1 seen) (leftOf M.es M.sn).toList w:=by
   have:=Ee (sn:=M.sn) M.md.tp;rw[<-M.Ef]at this;unfold leftOf;rw[Array.toList_filter];exact this
  have hrl:M.r<w.heap.size:=(Array.getElem?_eq_some_iff.1 M.hr).1;rcases Go.run_next_at (P:=P) w o.type M.r M.b M.c M.c M.sn M.es M.fE M.hr M.md.heap hold (ai _)with⟨h3,h4⟩|⟨m,hm,w1,hw1,h4⟩
  ·have hnil:yi e d.1 seen=[]:=dr.1 (by rw[hleft.len];simpa using h3)
   refine⟨_,.tuple #[.bool false],st,loc,w,h1 hnil,rfl,g,Tr.refl _,⟨[.bool false],rfl,.cons rfl .nil⟩,.inl ?_⟩;simp only[execOp,hop,M.val,af,h4,aq,ak]
  ·obtain⟨y,hy,hyr⟩:=Ay hleft hm
   have hK:=h2 y hy;have e1:w1.heap=w.heap/\w1.os=w.os/\w1.output=w.output:=by rcases hw1 with rfl|rfl <;> exact⟨rfl,rfl,rfl⟩
   obtain⟨t1,g1⟩:=Ed (w':=br w1 M.r (.mapIter (some M.b) M.c (M.sn.push m.born) M.fE)) (oc':=.iter [.eW n0] (seen++[y.2.2.1]) cl) g hO M.it M.ig trivial rfl rfl e1.2.1 e1.2.2
    (by simp[br,e1.1]) (fun b' hb'=>by simp only[br,Array.getElem?_setIfInBounds,e1.1];rw[if_neg (fun e=>hb' e.symm)])
   have hor:=(g.obj _ _ M.it).2;have hg1:=g1 (by
    obtain⟨r',m0,c0,sn0,q1,q2,q3,q4,q5,q6⟩:=hor;have hmb:m0=M.b:=by
     have hr':r'=M.r:=by have:=M.XB.symm.trans q1;cases this;rfl
     subst hr';have:=M.hr.symm.trans q3;cases this;rfl
    refine⟨M.r,m0,M.c,M.sn.push m.born,M.XB,M.ig,?_,q4.tr t1,M.fV,?_⟩
    ·show(br w1 M.r _).heap[M.r]?=_
     rw[hmb,hcc];simp only[br,Array.getElem?_setIfInBounds,e1.1];simp[hrl]
    ·rw[dq,List.map_append,<-M.Ef,hyr.born];rfl)
   refine⟨_,.tuple #[.bool true,m.key,m.val],_,loc,_,hK,rfl,hg1,t1,⟨[.bool true,m.key,m.val],rfl,.cons rfl (.cons (G7 hyr.key) (.cons (tX M.md.fH hyr.val) .nil))⟩,.inl ?_⟩;simp only[execOp,hop,M.val,af,h4,aq,ak]
 ·rename_i it hop
  cases hm;obtain⟨e,k,cs,seen,cl,d,h1,⟨n0,rfl⟩,⟨M⟩⟩:=BS g (bN he it) h;obtain⟨fV,hne,hbo,h1⟩:=h1;have hcc:M.fE=M.c:=b6 (M.md.fE.symm.trans (fV.trans M.fV));have Ef:M.sn.toList≠[]:=fun e0=>hne (by rw[M.Ef,e0];rfl)
  have hlast:∃s,M.sn.back?=some s/\yj seen=(s:Int):=by
   refine⟨M.sn.toList.getLast Ef,?_,?_⟩
   ·rw[<-Array.getLast?_toList];exact List.getLast?_eq_some_getLast Ef
   ·refine(congrArg yj M.Ef).trans ?_
    unfold yj;rw[List.getLastD_eq_getLast?,List.getLast?_map,List.getLast?_eq_some_getLast Ef];rfl
  obtain⟨s,hs1,hs2⟩:=hlast;rw[hs2]at hbo h1;obtain⟨m,hm1,hm2⟩:=Lj M.md.tp hbo;refine⟨_,.tuple #[m.key,m.val],st,loc,w,h1,rfl,g,Tr.refl _,⟨[m.key,m.val],rfl,.cons (G7 hm2.key) (.cons (tX M.md.fH hm2.val) .nil)⟩,.inl ?_⟩;have hf:M.es.find? (fun m=>m.born == s)=some m:=by rw[<-Array.find?_toList];exact hm1
  have hr:=M.hr;have hb:=M.md.heap;simp only[aA]at hr hb;simp only[execOp,hop,M.val,Instr.entry,getObj,af,Sem.run,hr,hb,Result.andThen,hs1,hcc,bne_self_eq_false,az,if_false,hf];rfl
 ·rename_i c hop
  split at hm
  ·rename_i hcal
   split at hm
   ·rename_i m x t ts harg hty
    cases hm;obtain⟨e,n,d,h1,⟨M⟩⟩:=pn (P:=P) hok g (bN he m) h;split at h1
    case h_2=>exact h1.elim
    rename_i k hk;obtain⟨hv,hl⟩:=Dj hk (bN he x);have ha:c.args= #[m,x]:=aj.1 harg;have hat:c.argTypes[0]?=some t:=by rw[<-Array.getElem?_toList,hty];rfl
    have fin:∀es':Array MapEntry,jv e (fW e d.1 k) es'.toList w->(fW e d.1 k).length<=aM->(∀y∈fW e d.1 k,y∈d.1)->
      (∀ty,(cq c.argTypes ty #[.map (some M.b),.string ⟨k.toArray⟩]).run P w=.ok (.tuple #[]) {w with heap:=w.heap.setIfInBounds M.b (.map es' M.fE)})->
      ∃sv v st' loc' w',(K sv st').holds/\st'.env=st.env/\Good cx.eT X (aA O st' loc' w')/\Tr (aA O st loc w) (aA O st' loc' w')/\dO cx.eT (aA O st' loc' w') sv v/\
       ((execOp a.eval o).run P w=.ok (.value v) w'\/((execOp a.eval o).run P w=.ok .skip w'/\sv=.s (.one .any))):=by
     intro es' h3 h4 h5 h6;obtain⟨t1,g1⟩:=map_set (es':=es') (clk':=M.fE) g hO M.ob M.md (xs:=fW e d.1 k) (c':=d.2.1) M.md.fE h3 h4 (fun y hy=>M.md.old y (h5 y hy));refine⟨_,.tuple #[],_,loc,_,h1,rfl,g1,t1,aa,.inl ?_⟩;simp[execOp,hop,resolve,hcal,ha,invoke,builtin,M.val,hv,h6]
    rcases sJ hl 0 M.md.tp with⟨k1,k2,k3,k4,k5⟩|⟨k1,j,m',k2,k3,k4,k5,k6,k7,k8,k9,k10,k11⟩
    ·exact fin M.es (by rw[k5];exact M.md.tp) (by rw[k5];exact M.md.aM) (fun y hy=>by rw[k5]at hy;exact hy) fun ty=>sM hat M.iC M.key M.md.heap (.inl ⟨k3,rfl⟩)
    ·have hj:j<M.es.size:=by
      rcases a7 j M.es.toList.length with h'|h'
      ·simpa using h'
      ·rw[List.getElem?_eq_none h']at k2;cases k2
     refine fin (M.es.eraseIdxIfInBounds j) ?_ (Nat.le_trans k11 M.md.aM) k10 fun ty=>sM hat M.iC M.key M.md.heap (.inr ⟨j,_,k3,rfl⟩)
     unfold Array.eraseIdxIfInBounds;rw[dif_pos hj,Array.toList_eraseIdx];exact k9
   ·cases hm;exact h.elim
  ·rename_i hcal
   split at hm
   ·rename_i x t harg hty
    split at hm
    ·cases hm
     obtain⟨e,n,d,h1,⟨M⟩⟩:=pn (P:=P) hok g (bN he x) h;have ha:c.args= #[x]:=aj.1 harg;have ht:c.argTypes= #[t]:=aj.1 hty;have hsz:d.1.length=M.es.size:=by rw[M.md.tp.len];simp
     refine⟨_,.int .i64 (d.1.length:Int),st,loc,w,h1,rfl,g,Tr.refl _,Vb M.md.aM,.inl ?_⟩;have hgo:(getObj M.b).run P w=.ok (.map M.es M.fE) w:=bm M.md.heap;simp[execOp,hop,resolve,hcal,ha,ht,invoke,builtin,Builtin.len_,run_underlying M.iC,hgo,goInt,M.val,hsz]
    ·cases hm
   ·cases hm
  ·cases hm
 ·cases hm
end
def Az(cx:Cx)(st:St)(x:Operand)(ty:TypeId)(K:SV->St->VC):VC:=
 match ev st.env x,look cx.τ ty with
 |.s (.one .jQ),some (.slice e)=>match e.fH with
  |true=>K (.s (.one (.aV st.next))) (fresh st (.aV e []))
  |false=>wE cx st x ty K
 |_,_ =>.ff
def AA(cx:Cx)(st:St)(t:TypeId)(n:Nat)(x:C)(K:SV->St->VC):VC:=
 match look cx.τ t with
 |some (.slice e)=>match e.fH,wz st e x,look st.aF n with
  |true,some ys,some (.aV e' zs)=>match h:Ty.beq (.slice e') (.slice e)with
   |true =>.and (0<ad ys/\ad zs+ad ys<=1000000000) (K (.s (.one (.aV st.next))) (fresh (bA (bA st n) n) (.aV e (cJ h (a:=.slice e') zs++ys))))
   |false =>.ff
  |_,_,_ =>.ff
 |_ =>.ff
section
variable{X:Ext}{P:Program}{cx:Cx}
def wI{O:aH}{st:St}{loc:Nat->Loc}{w:World}{a:Act}(g:Good cx.eT X (aA O st loc w))(hO:eX O w)(he:gD cx.eT (aA O st loc w) st.env a)
  {x:Operand}{ty:TypeId}{K:SV->St->VC}(h:(Az cx st x ty K).holds) :
  ∃sv st' loc',(K sv st').holds/\st'.env=st.env/\Good cx.eT X (aA O st' loc' w)/\Tr (aA O st loc w) (aA O st' loc' w)/\dO cx.eT (aA O st' loc' w) sv (a.eval x):=by
 have hx:=lq he x;unfold Az at h;split at h
 case h_2=>exact h.elim
 rename_i e hl _;rw[hl]at hx;split at h
 ·obtain⟨tr1,g1⟩:=gT (oc:=.aV e []) (l:=⟨.slice none 0 0,[]⟩) g hO (Below.refl _ w) (by simp)
  have g1:=g1 (.inl ⟨rfl,⟨none,rfl⟩,rfl⟩);refine⟨_,_,_,h,rfl,g1,tr1,?_⟩;rw[show a.eval x=_ from hx];exact⟨by simp[aA,fresh],fun t ys hy=>by simp[aA,bU]⟩
 ·exact Gb g hO he h
def G9(hok:TyOK P cx){O:aH}{st:St}{loc:Nat->Loc}{w:World}(g:Good cx.eT X (aA O st loc w))(hO:eX O w)
  {t ty:TypeId}{n:Nat}{x:C}{K:SV->St->VC}{vs vx:Value}(hs:CR cx.eT (aA O st loc w) (.aV n) vs)(hx:CR cx.eT (aA O st loc w) x vx)(h:(AA cx st t n x K).holds) :
  ∃sv v st' loc' w',(K sv st').holds/\st'.env=st.env/\Good cx.eT X (aA O st' loc' w')/\Tr (aA O st loc w) (aA O st' loc' w')/\dO cx.eT (aA O st' loc' w') sv v/\
   (b7 #[t,t] ty #[vs,vx]).run P w=.ok v w':=by
 unfold AA at h;split at h
 case h_2=>exact h.elim
 rename_i e ht;obtain⟨te,ti,td,hu,hf⟩:=ie hok ht;obtain⟨z,hz,hzr⟩:=hf.zero;have hzs:z.cells.size=e.size:=by
  rw[<-b8];exact(kZ (S:=aA O st loc w) (cx:=cx) hzr).length.symm.trans (iY e)
 split at h
 case h_2=>exact h.elim
 rename_i ys e' zs hsc hys hob;split at h
 case h_2=>exact h.elim
 rename_i hb1;have he1:e'=e:=by have:=Ty.eq_of_beq hb1;cases this;rfl
 subst he1;rw[gy]at h;obtain⟨⟨hpos,hle⟩,h⟩:=h;have hvl:=hs.2 _ _ hob;have hbytes:(ad zs+ad ys)*ti.bytes<=140737488355328:=by have:=Nat.mul_le_mul hle hf.bytes;omega
 rcases uL g hys hx with⟨rfl,_⟩|⟨b,o,cap,cs,hvx,fV,hcc,hrl,hone⟩
 ·simp at hpos
 have hnews:∀j u,cs[j]?=some u->w.cell? ((⟨b,o,none⟩:Addr).add j)=some u:=fun j u hj=>by rw[bt];exact hcc j u hj
 subst hvx;have fin:∀(w':World) (b' cap':Nat) (vs':Array Value) (T':TypeId) (olds:List Value),olds.length=ad zs*e'.size->gx cx.eT e' zs (aA O st loc w).A w olds->
   w'.os=w.os->w'.output=w.output->w.heap.size<=w'.heap.size->(b'∈(loc n).bs\/w.heap.size<=b')->(∀b,b<w.heap.size->b≠b'->w'.heap[b]?=w.heap[b]?)->
   w'.heap[b']?=some (.cells vs' T' (0,0))->vs'.size=cap'*e'.size->ad zs+ad ys<=cap'->(∀(j:Nat) u,(olds++cs)[j]?=some u->vs'[j]?=some u)->
   (b7 #[t,t] ty #[vs,.slice (some ⟨b,o,none⟩) ys.length cap]).run P w=.ok (.slice (some ⟨b',0,none⟩) (ad zs+ad ys) cap') w'->
   ∃sv v st' loc' w',(K sv st').holds/\st'.env=st.env/\Good cx.eT X (aA O st' loc' w')/\Tr (aA O st loc w) (aA O st' loc' w')/\dO cx.eT (aA O st' loc' w') sv v/\
    (b7 #[t,t] ty #[vs,.slice (some ⟨b,o,none⟩) ys.length cap]).run P w=.ok v w':=by
  intro w' b' cap' vs' T' olds ho1 ho3 hos hout hsize hb' hoth hheap' hsz' hcap' hv hrun;obtain⟨tr,gd⟩:=rn (w':=w') (oc:=.aV e' (zs++ys)) (l:=⟨.slice (some ⟨b',0,none⟩) (ad zs+ad ys) cap',[b']⟩) g hO n n hos hout hsize
   (fun k oc' hk hl=>by
    have:k=n:=by rcases hk with h|h <;> exact h
    subst this;rw[hob]at hl;cases hl;rfl)
   (fun b hlt hb=>by
    refine hoth b hlt fun e' =>?_
    subst e';rcases hb' with k1|k1
    ·exact hb n _ (.inl rfl) hob k1
    ·omega)
   (fun b hbm=>by
    simp at hbm;subst hbm;rcases hb' with k1|k1
    ·exact .inl ⟨n,_,.inl rfl,hob,k1⟩
    ·exact .inr k1)
  have gd:=gd (.inr ⟨b',vs',T',cap',by rw[bh],rfl,hheap',hsz',by rw[bh];exact hcap',by rw[bh];unfold aM;omega,fun i y hy=>by
   obtain⟨us,r1,r2⟩:=(ho3.append ho1 hrl) i y hy;exact⟨us,ke hsc r1,fun j u hj=>hv _ u (r2 j u hj)⟩⟩)
  exact⟨_,_,_,_,_,h,rfl,gd,tr,⟨by simp[aA,fresh,bA],fun t xs hy=>by simp[aA,bU]⟩,hrun⟩
 rcases(g.obj n _ hob).2 with⟨rfl,⟨a0,ha0⟩,hbs0⟩|⟨b1,vs1,T1,cap1,hl1,hbs1,hheap1,hsz1,hfit1,hbig1,he1⟩
 ·have hvs0:vs=.slice a0 0 0:=hvl.trans ha0
  subst hvs0;have hrun:=nA (P:=P) (w:=w) (t:=t) (ty:=ty) hu hf.info hz a0 (a:=⟨b,o,none⟩) (n:=ad ys) (c:=cap) (news:=cs) (by rw[fV,hf.size]) hnews hpos (by simp at hle;omega)
   (by have:=hbytes;simp only[List.length_nil,aw]at this;omega)
  have hc':ad ys<=grownCap w (ad ys) 0 te:=grownCap_ge w _ _ _;have hB:Below w.heap.size w (w.drew.alloc (.cells (cs.toArray++dt z.cells (grownCap w (ad ys) 0 te-ad ys)) te)):=(Below.refl _ w).drew.alloc (ai _) _;refine fin _ w.heap.size (grownCap w (ad ys) 0 te) _ te [] (by simp) (fun i y hy=>by simp at hy) hB.os hB.output hB.size (.inr (ai _)) (fun b hlt _=>hB.block b hlt) (heap_alloc_new w.drew _) ?_ (by simpa using hc')
   (fun j u hj =>?_) (by rw[hrun];simp)
  ·simp only[du,bu,size_zeroCells,hzs,fV,<-b9]
   congr 1;omega
  ·rw[List.nil_append]at hj
   rw[Array.getElem?_append,if_pos (by simpa using bG hj)];simpa using hj
 ·have hvs0:vs=.slice (some ⟨b1,0,none⟩) (ad zs) cap1:=hvl.trans hl1
  subst hvs0;have hxs:ad zs*e'.size<=vs1.size:=by rw[hsz1];exact cu _ hfit1
  obtain⟨olds,ho,ho1,ho3,_⟩:=qo he1 hxs;have ho2:∀j u,olds[j]?=some u->vs1[j]?=some u:=fun j u hj=>by
   rw[ho,List.getElem?_take]at hj;split at hj
   ·rwa [Array.getElem?_toList]at hj
   ·cases hj
  by_cases hroom:ad zs+ad ys<=cap1
  ·have hmul:(ad zs+ad ys)*e'.size<=cap1*e'.size:=cu _ hroom
   rw[b9]at hmul;have hfit:ad zs*ti.size+cs.length<=vs1.size:=by rw[hf.size,hsz1,fV];exact hmul
   have hrun:=qZ (P:=P) (ty:=ty) hu hf.info hheap1 (a:=⟨b,o,none⟩) (c:=cap) (by rw[fV,hf.size]) hnews hone hroom hfit;rw[hf.size]at hrun hfit;generalize hcur':(vs1.toList.take (ad zs*e'.size)++cs++vs1.toList.drop (ad zs*e'.size+cs.length)).toArray=cur' at hrun;have hget:∀k:Nat,cur'[k]?=if k<ad zs*e'.size then vs1[k]? else if k<ad zs*e'.size+cs.length then cs[k-ad zs*e'.size]? else vs1[k]?:=by
    intro k;rw[<-hcur',List.getElem?_toArray,iG _ _ _ _ (by simpa using hfit)];simp
   have hsz':cur'.size=vs1.size:=by
    rw[<-hcur'];simp only[bu,bh,List.length_take,List.length_drop,b8];omega
   refine fin (w.setRow b1 cur') b1 cap1 cur' T1 olds ho1 ho3 rfl rfl (by simp[World.setRow]) (.inl (by rw[show(loc n).bs=_ from hbs1];simp))
    (fun b _ hne=>setRow_other w b1 b cur' (fun e'=>hne e')) (setRow_heap w b1 vs1 cur' T1 (0,0) hheap1) (by rw[hsz',hsz1]) hroom (fun j u hj =>?_) hrun
   rw[List.getElem?_append,ho1]at hj;rw[hget];by_cases h3:j<ad zs*e'.size
   ·rw[if_pos h3]at hj ⊢;exact ho2 j u hj
   ·rw[if_neg h3]at hj
    have:=bG hj;rw[if_neg h3,if_pos (by omega)];exact hj
  ·have hrun:=run_append_grow (P:=P) w t ty te ti z hu hf.info hz ⟨b1,0,none⟩ (ad zs) cap1 olds (by rw[ho1,hf.size])
    (fun j u hj=>by rw[bt,aw,cell_of_row w b1 _ vs1 T1 (0,0) hheap1];exact ho2 j u hj)
    ⟨b,o,none⟩ (ad ys) cap cs (by rw[fV,hf.size]) hnews (by omega) (by omega) (growslice_fits (by omega) hbytes)
   have hc':ad zs+ad ys<=grownCap w (ad zs+ad ys) cap1 te:=grownCap_ge w _ _ _;have hB:Below w.heap.size w (w.drew.alloc (.cells (olds.toArray++cs.toArray++dt z.cells (grownCap w (ad zs+ad ys) cap1 te-(ad zs+ad ys))) te)):=(Below.refl _ w).drew.alloc (ai _) _;refine fin _ w.heap.size (grownCap w (ad zs+ad ys) cap1 te) _ te olds ho1 ho3 hB.os hB.output hB.size (.inr (ai _)) (fun b hlt _=>hB.block b hlt) (heap_alloc_new w.drew _) ?_ hc' (fun j u hj =>?_) hrun
   ·simp only[du,bu,size_zeroCells,hzs,fV,ho1,<-b9]
    congr 1;omega
   ·have hj':(olds.toArray++cs.toArray)[j]?=some u:=by
     rw[<-Array.getElem?_toList];simpa using hj
    rw[Array.getElem?_append,if_pos (by have:=(Array.getElem?_eq_some_iff.1 hj').1;exact this)];exact hj'
end
def SC(a b:Int):Int:=if b<a then b else a
def Dl(a b:Int):Int:=if b > a then b else a
def Mz(mx:Bool)(x y:C)(K:C->VC):VC:=
 match x,y with
 |.d (.int k) a,.d (.int k') b=>match decide (k=k'),mx with
  |true,true=>K (.d (.int k) (Dl a b))
  |true,false=>K (.d (.int k) (SC a b))
  |_,_ =>.ff
 |_,_ =>.ff
def rZ(st:St)(env:List (Nat×SV)):List Operand->Option (List Nat)
 |[]=>some []
 |x :: xs=>match eE env x,rZ st env xs with
  |.ref n 0,some ns=>match look st.aF n with
   |some (.cells _ _)=>some (n :: ns)
   |_=>none
  |_,_=>none
def O3(cx:Cx)(st:St)(still:Bool)(f:C)(args:List cO)(K:SV->St->VC):VC:=
 match f with
 |.fn k caps=>match look cx.Γ k with
  |some (q,sp)=>match still&&!q with
   |true =>.ff
   |false=>sp (args++caps.map fun n =>.one (.ref n 0)) st K
  |none =>.ff
 |_ =>.ff
def r5(cx:Cx)(d:Option Tmp):Bool:=
 match d with
 |some d=>mC d cx.hint
 |none=>false
def AB(cx:Cx)(st:St)(o:Oper)(c:Call)(K:SV->St->VC):VC:=
 match c.callee with
 |.value f=>O3 cx st (r5 cx o.dst) (eE st.env f) (c.args.toList.map fun x=>rj st.env x) K
 |.builtin .append=>match c.args.toList,c.argTypes.toList with
  |[s,x],[t,t']=>match ab t t' with
   |true=>match eE st.env s,eE st.env x with
    |.xd n .top,.xd m .top=>Di cx st t n m K
    |.aV n,x=>match r5 cx o.dst with
     |true=>AA cx st t n x K
     |false=>uK cx false st t (.aV n) x K
    |s,x=>uK cx (r5 cx o.dst) st t s x K
   |false=>match look cx.τ t,look cx.τ t',eE st.env s,eE st.env x with
    |some (.slice (.int .u8)),some .str,.app e' xs n,.d .str ys=>BJ st (.int .u8) (bE ys) e' xs n K
    |_,_,_,_ =>.ff
  |_,_ =>.ff
 |.builtin .copy=>match c.args.toList,c.argTypes.toList with
  |[d,s],[t,_]=>G2 cx st t (eE st.env d) (eE st.env s) K
  |_,_ =>.ff
 |.builtin .max=>match c.args.toList with
  |[x,y]=>Mz true (eE st.env x) (eE st.env y) fun c=>K (.s (.one c)) st
  |_ =>.ff
 |.builtin .min=>match c.args.toList with
  |[x,y]=>Mz false (eE st.env x) (eE st.env y) fun c=>K (.s (.one c)) st
  |_ =>.ff
 |_=>ph cx st o.op fun sv=>K sv st
def bytesOf(ys:List Int):List UInt8:=ys.map fun n=>UInt8.ofNat n.toNat
def uN(st:St)(x:C)(K:C->VC):VC:=
 match wz st (.int .u8) x with
 |some ys =>.and (ys.length<=aM) (K (.d .str (bytesOf ys)))
 |none =>.ff
def uO(st:St)(x:C)(K:SV->St->VC):VC:=
 match x with
 |.d .str s=>K (.s (.one (.d (.slice (.int .u8)) (bE s)))) st
 |_ =>.ff
def AD(cx:Cx)(st:St)(o:Oper)(s t:TypeId)(x:Operand)(K:SV->St->VC):VC:=
 match look cx.τ s,look cx.τ t with
 |some (.slice (.int .u8)),some .str=>uN st (eE st.env x) fun c=>K (.s (.one c)) st
 |some .str,some (.slice (.int .u8))=>uO st (eE st.env x) K
 |_,some (.int _)=>ph cx st o.op fun sv=>K sv st
 |_,_ =>.ff
def isRow:C->Bool
 |.aV _=>true
 |_=>false
def Lk(st:St)(n:Nat)(ps:List (Nat×Operand)):Option cO:=
 match n,ps with
 |1,[(0,x)]=>match rj st.env x with
  |.one (.aV m)=>some (.one (.aV m))
  |.agg cs=>match cs.any isRow with
   |true=>some (.agg cs)
   |false=>none
  |_=>none
 |_,_=>none
def Vc:Nat:=6000000
def MA(cx:Cx)(d:Option Tmp)(v:SV):Option SV:=
 match d,v with
 |some d,.s (.one (.app e xs _))=>match mC (Vc+d) cx.hint with
  |true=>some (.s (.one (.d (.slice e) xs)))
  |false=>none
 |_,_=>none
def MB(cx:Cx)(st:St)(o:Oper)(x:Operand)(K:SV->St->VC):VC:=
 match r5 cx o.dst,ev st.env x with
 |true,.s (.one .jQ)=>Az cx st x o.type K
 |_,v=>match MA cx o.dst v with
  |some v=>K v st
  |none=>yg cx st x o.type K
def Eg(cx:Cx)(st:St)(t:TypeId)(n:Nat)(ps:List (Nat×Operand))(K:SV->St->VC):VC:=
 match Lk st n ps with
 |some v=>wF cx st t v K
 |none=>rX cx st t n ps fun c=>K (.s (.one c)) st
def Vd:Nat:=5000000
def Ha(cx:Cx)(v:cO):Option Nat:=
 match mC Vd cx.hint,v with
 |true,.one (.aV n)=>some n
 |_,_=>none
def O4{cx:Cx}{v:cO}{n:Nat}(h:Ha cx v=some n):v=.one (.aV n):=by
 unfold Ha at h;split at h
 ·cases h;rfl
 ·cases h
def WD(cx:Cx)(st:St)(t:TypeId)(x:C)(v:cO)(K:SV->St->VC):VC:=
 match x with
 |.xd n (.cell i j)=>match look cx.τ t with
  |some ty=>wG st n i j ty v K
  |none =>.ff
 |x=>match Ha cx v with
  |some n=>match look st.aF n with
   |some (.aV e zs)=>yh cx (bA st n) t x (.one (.d (.slice e) zs)) K
   |_ =>.ff
  |none=>yh cx st t x v K
def BT(cx:Cx)(st:St)(o:Oper)(K:SV->St->VC):VC:=
 match o.op with
 |.convert s t x=>AD cx st o s t x K
 |.move x=>yg cx st x o.type K
 |.assign x=>MB cx st o x K
 |.alloc t=>match look cx.sG t with
  |some e=>K (.s (.one (.eW st.next))) (fresh st (.ext 2 kz ([],(t:Int),(e:Int),())))
  |none=>Le cx st t K
 |.box t x=>UJ cx st t (rj st.env x) K
 |.build t ps=>Dh cx st t ps.toList fun sv=>K sv st
 |.buildSlice t n ps=>match r5 cx o.dst with
  |true=>uM cx st t n ps.toList K
  |false=>Eg cx st t n ps.toList K
 |.makeSlice t l c=>tw cx st t (eE st.env l) (eE st.env c) K
 |.store t x v=>WD cx st t (eE st.env x) (rj st.env v) K
 |.makeFunc fn first caps=>match fn,first.toList,rZ st st.env caps.toList with
  |.func f,[],some ns=>K (.s (.one (.fn f ns))) st
  |_,_,_ =>.ff
 |.call c=>AB cx st o c K
 |op=>ph cx st op fun sv=>K sv st
def wJ(cx:Cx)(st:St)(o:Oper)(K:SV->St->VC):VC:=
 match BR cx st o K with
 |some vc=>vc
 |none=>BT cx st o K
def kindOf(cx:Cx)(o:Oper):Nat:=
 match o.op with
 |.move _|.assign _=>0
 |.convert _ t _=>match look cx.τ t with
  |some (.int _)=>0
  |_=>3
 |.pick _ _ _|.unOp _ _ _|.extract _ _|.binOp _ _ _ _ _|.makeInterface _ _|.typeAssert _ _ _ _|.index _ _ _|.build _ _|.nilCheck _|.indexAddr _ _ _|.fieldAddr _ _ _|.slice _ _ _ _ _|.makeFunc _ _ _=>0
 |.load _ _=>1
 |.alloc _|.box _ _|.buildSlice _ _ _|.makeSlice _ _ _=>2
 |.call c=>match c.callee with
  |.builtin .len=>match c.argTypes.toList with
   |[t]=>match look cx.qE t with
    |some _=>3
    |none=>0
   |_=>0
  |.builtin .max=>0
  |.builtin .min=>0
  |.value (.func f)=>match look cx.Γ f with
   |some (true,_)=>2
   |_=>3
  |.value _=>match r5 cx o.dst with
   |true=>2
   |false=>3
  |_=>3
 |_=>3
section
variable{X:Ext}{P:Program}{cx:Cx}
def Gs(cx:Cx)(X:Ext)(O:aH)(K:SV->St->VC)(st:St)(S:bI)(loud:Bool)(a:Act)(dst:Option Tmp):Act->World->Prop:=
 fun a' w'=>∃v sv st' loc',a'=a.put dst v/\(K sv st').holds/\st'.env=st.env/\(loud=false->Below S.w.heap.size S.w w')/\Good cx.eT X (aA O st' loc' w')/\Tr S (aA O st' loc' w')/\dO cx.eT (aA O st' loc' w') sv v
structure bX (P:Program) (eT:TypeId) (X:Ext) (f:FuncId) (quiet:Bool) (sp:aT):Prop where
 fn:∃fn,P.funcs[f]?=some fn/\fn.body.isNone=false/\(fn.name == "runtime.NumGoroutine")=false
 ok:∀O st loc w args vs K,(sp args st K).holds->Good eT X (aA O st loc w)->eX O w->cQ eT (aA O st loc w) args vs->
  Calls P f vs.toArray w fun e w'=>∃v sv st' loc',e=.returned v/\(K sv st').holds/\st'.env=st.env/\(quiet=true->Below w.heap.size w w')/\Good eT X (aA O st' loc' w')/\
   Tr (aA O st loc w) (aA O st' loc' w')/\dO eT (aA O st' loc' w') sv v
structure lu (P:Program) (cx:Cx) (X:Ext):Prop extends TyOK P cx where
 calls:∀f q sp,look cx.Γ f=some (q,sp)->bX P cx.eT X f q sp
variable{Q:Exit->Act->World->Prop}
def eU{o:Oper}{a:Act}{w w':World}{v:Value}{Kw:Act->World->Prop}(h:(execOp a.eval o).run P w=.ok (.value v) w')(hk:Kw (a.put o.dst v) w'):o.wp P a w Kw Q:=by
 unfold bj;rw[h];exact hk
def wK{f:FuncId}{fn:Func}(hfn:P.funcs[f]?=some fn)(hbody:fn.body.isNone=false)(hname:(fn.name == "runtime.NumGoroutine")=false)(args:Array Value)(w:World) :
  (callFunc f args).run P w=.ok (.enter f args) w:=by
 unfold callFunc;simp only[af,run_program,aq,hfn,hname,hbody,az,if_false,ak]
def wL{O:aH}{st:St}{loc:Nat->Loc}{w:World}{a:Act}(he:gD cx.eT (aA O st loc w) st.env a):∀{xs:List Operand} {ns:List Nat},rZ st st.env xs=some ns->
  xs.map a.eval=ns.map (fun n=>(loc n).v)/\∀n∈ns,n<st.next/\(aA O st loc w).fixed n:=by
 intro xs;induction xs with
 |nil=>intro ns h;simp[rZ]at h;subst h;simp
 |cons x xs ih=>
  intro ns h;simp only[rZ]at h;split at h
  ·rename_i n ns' hx hxs
   split at h
   ·rename_i T cs hob
    cases h;obtain⟨k1,k2⟩:=ih hxs;have hr:=bN he x;rw[hx]at hr;obtain⟨b,h1,h2⟩:=hr.2 _ _ hob;refine⟨by simp only[List.map_cons,k1];congr 1;rw[h2];exact h1.symm,fun m hm =>?_⟩;rcases ah.1 hm with rfl|hm
    ·exact⟨hr.1,fun t ys e=>by simp only[aA]at e;rw[hob]at e;cases e⟩
    ·exact k2 m hm
   ·cases h
  ·cases h
def cQ.append{eT:TypeId}{S:bI}{xs ys:List cO}{us vs:List Value}(h:cQ eT S xs us)(h':cQ eT S ys vs):cQ eT S (xs++ys) (us++vs):=by
 induction h with
 |nil=>exact h'
 |cons h1 _ ih=>exact .cons h1 ih
def SD{O:aH}{st:St}{loc:Nat->Loc}{w:World}(g:Good cx.eT X (aA O st loc w)):∀{ns:List Nat},(∀n∈ns,n<st.next)->cQ cx.eT (aA O st loc w) (ns.map fun n =>.one (.ref n 0)) (ns.map fun n=>(loc n).v):=by
 intro ns;induction ns with
 |nil=>intro _;exact .nil
 |cons n ns ih=>
  intro h;refine .cons ⟨h n (by simp),fun T cs hob =>?_⟩ (ih fun m hm=>h m (by simp[hm]));obtain⟨_,b,vs,hl,_⟩:=g.obj _ _ hob;exact⟨b,hl,hl⟩
def Hb{S:bI}{env:List (Nat×SV)}{a:Act}(he:gD cx.eT S env a):∀(xs:List Operand),cQ cx.eT S (xs.map fun x=>rj env x) (xs.map a.eval)
 |[] =>.nil
 |x :: xs =>.cons (lr he x) (Hb he xs)
def uP{S:bI}{mx:Bool}{x y:C}{K:C->VC}{v1 v2:Value}(hx:CR cx.eT S x v1)(hy:CR cx.eT S y v2)(h:(Mz mx x y K).holds) :
  ∃c v,(K c).holds/\CR cx.eT S c v/\∀w,(if mx then dv v1 v2 else dw v1 v2).run P w=.ok v w:=by
 unfold Mz at h;split at h
 ·rename_i k a k' b
  obtain⟨rfl,ha⟩:=cS.1 hx;obtain⟨rfl,hb⟩:=cS.1 hy;split at h
  ·rename_i hk
   simp at hk;subst hk;refine⟨_,_,h,cS.2 ⟨rfl,?_⟩,fun w=>by simp[dv,Dl]⟩;unfold Dl;split <;> assumption
  ·rename_i hk
   simp at hk;subst hk;refine⟨_,_,h,cS.2 ⟨rfl,?_⟩,fun w=>by simp[dw,SC]⟩;unfold SC;split <;> assumption
  ·exact h.elim
 ·exact h.elim
def foldl_push(ns:List Int):∀s:ByteArray,ns.foldl (fun r n=>r.push (UInt8.ofNat n.toNat)) s=⟨s.data++(bytesOf ns).toArray⟩:=by
 induction ns with
 |nil=>intro s;simp[bytesOf]
 |cons n ns ih=>
  intro s;rw[cw,ih];simp[bytesOf,ByteArray.push]
def Ve{eT:TypeId}{A:aH}{w:World}{ys:List Int}{cs:List Value}(hl:cs.length=ys.length)(h:gx eT (.int .u8) ys A w cs):cs=ys.map (Value.int .u8):=by
 apply List.ext_getElem?;intro i;cases hy:ys[i]? with
 |none=>
  have:ys.length<=i:=List.getElem?_eq_none_iff.1 hy;rw[List.getElem?_eq_none (by omega),List.getElem?_eq_none (by simpa using this)]
 |some y=>
  obtain⟨us,h1,h2⟩:=h i y hy;obtain⟨rfl,_⟩:=h1;have:=h2 0 _ rfl;simp only[Ty.size,cy,cz]at this;rw[this,List.getElem?_map,hy];rfl
def Dm(hok:TyOK P cx){O:aH}{st:St}{loc:Nat->Loc}{w:World}(g:Good cx.eT X (aA O st loc w)){s t:TypeId}(hs:look cx.τ s=some (.slice (.int .u8)))(ht:look cx.τ t=some .str)
  {x:C}{v0:Value}(hx:CR cx.eT (aA O st loc w) x v0){K:C->VC}(h:(uN st x K).holds) :
  ∃c v,(K c).holds/\CR cx.eT (aA O st loc w) c v/\(convert s t v0).run P w=.ok v w:=by
 obtain⟨_,i1,d1,hf1,hs1⟩:=fJ hok hs;cases d1 <;> simp[cA]at hs1;rename_i te;have hu:=hf1.iC;obtain⟨_,_,d3,_,hf3,hs3⟩:=kY hs1;have hte:P.underlying te=some (.int .u8):=by
  cases d3 <;> simp[cA]at hs3;subst hs3;exact hf3.iC
 obtain⟨_,i2,d2,hf2,hs2⟩:=fJ hok ht;have hd2:d2=.string:=by cases d2 <;> simp[cA]at hs2;rfl
 subst hd2;unfold uN at h;split at h
 ·rename_i ys hys
  obtain⟨hlen,h⟩:=h;refine⟨_,.string ⟨(bytesOf ys).toArray⟩,h,jI.2 ⟨rfl,by simpa[bytesOf]using hlen⟩,?_⟩;rcases uL g hys hx with⟨rfl,a0,c0,rfl⟩|⟨b,o,cap,cs,rfl,h1,h2,h3,_⟩
  ·rcases a0 with _|a0
   ·rw[run_convert_bytes_string w s t te none 0 c0 hu hte hf2.iC]
    rfl
   ·rw[run_convert_bytes_string w s t te _ _ _ hu hte hf2.iC]
    rw[run_bytesToString w a0 0 c0 [],foldl_push]
    ·simp
    ·have:=run_loadCells_list (P:=P) w a0 [] (fun j u hj=>by simp at hj)
     simpa using this
  ·rw[run_convert_bytes_string w s t te _ _ _ hu hte hf2.iC]
   simp only[Ty.size,cy]at h1;have hcs:=Ve h1 h3;rw[run_bytesToString w ⟨b,o,none⟩ ys.length cap ys,foldl_push]
   ·simp
   ·rw[<-h1,run_loadCells_list w _ cs (fun j u hj=>by rw[bt];exact h2 j u hj),hcs]
 ·exact h.elim
def yX(s:List UInt8)(i:Nat):(bE s)[i]?=s[i]?.map fun b=>(b.toNat:Int):=by
 simp[bE]
def Eh{S:bI}{d:Option Tmp}{v u:SV}{val:Value}(h:MA cx d v=some u)(hv:dO cx.eT S v val):dO cx.eT S u val:=by
 unfold MA at h;split at h
 ·split at h
  ·cases h
   exact hv.1
  ·cases h
 ·cases h
def Dn(hok:TyOK P cx){O:aH}{st:St}{loc:Nat->Loc}{w:World}(g:Good cx.eT X (aA O st loc w))(hO:eX O w){s t:TypeId}(hs:look cx.τ s=some .str)(ht:look cx.τ t=some (.slice (.int .u8)))
  {x:C}{v0:Value}(hx:CR cx.eT (aA O st loc w) x v0){K:SV->St->VC}(h:(uO st x K).holds) :
  ∃sv v w',(K sv st).holds/\dO cx.eT (aA O st loc w') sv v/\(convert s t v0).run P w=.ok v w'/\Below w.heap.size w w':=by
 obtain⟨_,i1,d1,hf1,hs1⟩:=fJ hok ht;cases d1 <;> simp[cA]at hs1;rename_i te;obtain⟨_,_,d3,_,hf3,hs3⟩:=kY hs1;have hte:P.underlying te=some (.int .u8):=by
  cases d3 <;> simp[cA]at hs3;subst hs3;exact hf3.iC
 obtain⟨_,i2,d2,hf2,_⟩:=fJ hok hs;unfold uO at h;split at h
 case h_2=>exact h.elim
 rename_i s0;obtain⟨rfl,hbig⟩:=jI.1 hx;have hrun:=Lib.run_convert_string_bytes (P:=P) w s t te ⟨s0.toArray⟩ hf2.iC hf1.iC hte;have hbl:Below w.heap.size w (Lib.bytesWorld w te ⟨s0.toArray⟩):=⟨rfl,rfl,by rw[Lib.bytesWorld_size];omega,fun k hk=>Lib.bytesWorld_at_old w te _ k hk⟩;refine⟨_,_,_,h,?_,hrun,hbl⟩;have hA:∀o,¬(aA O st loc w).A w.heap.size o:=by
  rintro o (h|⟨n,oc,h1,h2,_⟩)
  ·exact absurd (hO _ _ h) (Nat.lt_irrefl _)
  ·exact absurd ((g.obj n oc h1).2.inside _ h2) (Nat.lt_irrefl _)
 have hsz:(⟨s0.toArray⟩:ByteArray).size=s0.length:=by simp[ByteArray.size]
 show VR cx.eT (.slice (.int .u8)) (bE s0) _ _ _;refine VR.cI rfl ⟨_,rfl,by simpa[bE]using hbig,.inr ⟨w.heap.size,0,grownCap w s0.length 0 te,by rw[hsz];simp[bE],by simp only[bE,ca];exact grownCap_ge _ _ _ _,fun i y hy=>⟨[.int .u8 y],?_,?_⟩⟩⟩
 ·rw[yX]at hy
  cases hb:s0[i]? with
  |none=>rw[hb]at hy;cases hy
  |some b=>
   rw[hb]at hy;cases hy;have h1:=b.toNat_lt;have h2:cb.min=0:=by decide
   have h3:cb.max=255:=by decide
   refine⟨rfl,?_,?_⟩
   ·show cb.min<=((b.toNat:Nat):Int);omega
   ·show((b.toNat:Nat):Int)<=cb.max;omega
 ·intro j u hj
  cases j with
  |succ j=>simp at hj
  |zero=>
   simp at hj;subst hj;refine⟨?_,hA _⟩;rw[yX]at hy;cases hb:s0[i]? with
   |none=>rw[hb]at hy;cases hy
   |some b=>
    rw[hb]at hy;cases hy;have hlt:i<s0.length:=(List.getElem?_eq_some_iff.1 hb).1;have:=Lib.bytesWorld_cell w te ⟨s0.toArray⟩ i (by rw[hsz];exact hlt);simp only[aA,Ty.size,cy,aw,cz];rw[this];simp[List.getD,hb]
def O5(hok:lu P cx X){O:aH}{st:St}{loc:Nat->Loc}{w:World}{a:Act}(g:Good cx.eT X (aA O st loc w))(hO:eX O w)(he:gD cx.eT (aA O st loc w) st.env a)
  {o:Oper}{K:SV->St->VC}(h:(BT cx st o K).holds):o.wp P a w (Gs cx X O K st (aA O st loc w) (ab (kindOf cx o) 3) a o.dst) Q:=by
 have read:(ph cx st o.op fun sv=>K sv st).holds->o.wp P a w (Gs cx X O K st (aA O st loc w) (ab (kindOf cx o) 3) a o.dst) Q:=by
  intro h;obtain⟨sv,v,h1,h2,h3⟩:=GW hok.toTyOK g he h;exact eU h3 ⟨v,sv,st,loc,rfl,h1,rfl,fun _=>Below.refl _ _,g,Tr.refl _,h2⟩
 have mov:∀x ty,(execOp a.eval o).run P w=.ok (.value (a.eval x)) w->(yg cx st x ty K).holds->o.wp P a w (Gs cx X O K st (aA O st loc w) (ab (kindOf cx o) 3) a o.dst) Q:=by
  intro x ty hrun h;obtain⟨sv,st',loc',h1,h2,h3,h4,h5⟩:=yU g hO he h;exact eU hrun ⟨_,sv,st',loc',rfl,h1,h2,fun _=>Below.refl _ _,h3,h4,h5⟩
 unfold BT at h;split at h
 ·rename_i s t x hop
  unfold AD at h;split at h
  ·rename_i hs ht
   obtain⟨c,v,h1,h2,h3⟩:=Dm hok.toTyOK g hs ht (bN he x) h;exact eU (w':=w) (by simp only[execOp,hop,af,ak];rw[h3];rfl) ⟨v,_,st,loc,rfl,h1,rfl,fun _=>Below.refl _ _,g,Tr.refl _,h2⟩
  ·rename_i hs ht
   obtain⟨sv,v,w',h1,h2,h3,h4⟩:=Dn hok.toTyOK g hO hs ht (bN he x) h;obtain⟨t1,g1⟩:=pb (S:=aA O st loc w) (S':=aA O st loc w') g rfl rfl rfl rfl h4;exact eU (w':=w') (by simp only[execOp,hop,af,ak];rw[h3];rfl) ⟨v,sv,st,loc,rfl,h1,rfl,fun _=>h4,g1,t1,h2⟩
  ·exact read h
  ·exact h.elim
 ·rename_i x hop
  exact mov x _ (by simp[execOp,hop]) h
 ·rename_i x hop
  unfold MB at h;split at h
  ·obtain⟨sv,st',loc',h1,h2,h3,h4,h5⟩:=wI g hO he h
   exact eU (w':=w) (v:=a.eval x) (by simp[execOp,hop]) ⟨_,sv,st',loc',rfl,h1,h2,fun _=>Below.refl _ _,h3,h4,h5⟩
  ·split at h
   ·rename_i hd
    exact eU (w':=w) (v:=a.eval x) (by simp[execOp,hop]) ⟨_,_,st,loc,rfl,h,rfl,fun _=>Below.refl _ _,g,Tr.refl _,Eh hd (lq he x)⟩
   ·exact mov x _ (by simp[execOp,hop]) h
 ·rename_i t hop
  split at h
  ·rename_i e hslf
   obtain⟨i,hi,hz⟩:=hok.sG t e hslf;have hb:Below w.heap.size w (w.alloc (.cells #[.pointer none,.slice none 0 0] t)):=(Below.refl _ w).alloc (ai _) _;obtain⟨tr1,g1⟩:=gT (oc:=.ext 2 kz ([],(t:Int),(e:Int),())) (l:=⟨.pointer (some ⟨w.heap.size,0,none⟩),[w.heap.size]⟩) g hO hb (by simp);have g1:=g1 (X.OO.2 ⟨rfl,w.heap.size,.pointer none,.slice none 0 0,rfl,.inl rfl,heap_alloc_new w _,⟨by simp,.inl ⟨rfl,rfl⟩⟩,rfl,by simp[Value.ownBlock],(fun y hy=>by simp at hy),(fun a n c hh=>by cases hh)⟩);refine eU (w':=w.alloc (.cells #[.pointer none,.slice none 0 0] t)) (v:=.pointer (some ⟨w.heap.size,0,none⟩)) (by simp[execOp,hop,c6,zeroValue,typeInfo,hi,hz,newVar,newRow,bw])
    ⟨_,_,_,_,rfl,h,rfl,fun _=>hb,g1,tr1,⟨by simp[aA,fresh],fun oc hy hx =>?_⟩⟩
   simp[aA,bU]
  unfold Le at h;split at h
  ·rename_i ty ht
   obtain⟨m,ti,d,hf,hs⟩:=fJ hok.toTyOK ht;obtain⟨z,hz,hzr⟩:=hf.zero;obtain⟨sv,st',loc',h1,h2,h3,h4,h5⟩:=OX (t:=t) (ts:=oW ty) g hO (kZ hzr) h;refine eU (w':=w.alloc (.cells z.cells.toList.toArray t)) ?_ ⟨_,sv,st',loc',rfl,h1,h2,fun _=>(Below.refl _ w).alloc (ai _) _,h3,h4,h5⟩;simp[execOp,hop,c6,zeroValue,typeInfo,hf.info,hz,newVar,newRow]
  ·split at h
   case h_2=>exact h.elim
   rename_i n te hn;split at h
   case h_2=>exact h.elim
   rename_i e he;split at h
   case h_2=>exact h.elim
   rename_i hno;obtain⟨i,z,hi,hz,hzr⟩:=hok.uH t n te e hn he;have hb:Below w.heap.size w (w.alloc (.cells z.cells.toList.toArray t)):=(Below.refl _ w).alloc (ai _) _;obtain⟨tr1,g1⟩:=gT (oc:=.arr e (dx n (bY e))) (l:=⟨.pointer (some ⟨w.heap.size,0,none⟩),[w.heap.size]⟩) g hO hb (by simp);obtain⟨hl,hel⟩:=GZ (eT:=cx.eT) (A:=(aA O (fresh st (.arr e (dx n (bY e)))) (bU loc st.next ⟨.pointer (some ⟨w.heap.size,0,none⟩),[w.heap.size]⟩) (w.alloc (.cells z.cells.toList.toArray t))).A) (w:=w.alloc (.cells z.cells.toList.toArray t)) hno hzr;have g1:=g1 ⟨w.heap.size,z.cells.toList.toArray,t,rfl,rfl,heap_alloc_new w _,by simp only[bu,List.length_replicate];exact hl,fun j y hy=>by
    obtain⟨us,k1,k2⟩:=hel j y hy;exact⟨us,k1,fun q u hq=>by simpa using k2 q u hq⟩⟩
   refine eU (w':=w.alloc (.cells z.cells.toList.toArray t)) ?_ ⟨.pointer (some ⟨w.heap.size,0,none⟩),_,_,_,rfl,h,rfl,fun _=>hb,g1,tr1,?_⟩
   ·simp[execOp,hop,c6,zeroValue,typeInfo,hi,hz,newVar,newRow]
   ·show st.next<st.next+1/\_
    refine⟨by omega,fun t' xs' hx =>?_⟩;simp[aA,bU]
 ·rename_i t x hop
  unfold UJ at h;split at h
  ·rename_i ty ht
   split at h
   ·rename_i cs0 hfl
    obtain⟨us,hus,hcr,_⟩:=sH g hfl (lr he x);obtain⟨sv,st',loc',h1,h2,h3,h4,h5⟩:=OX (t:=t) (ts:=oW ty) g hO hcr h;refine eU (w':=w.alloc (.cells us.toArray t)) ?_ ⟨_,sv,st',loc',rfl,h1,h2,fun _=>(Below.refl _ w).alloc (ai _) _,h3,h4,h5⟩;subst hus;simp[execOp,hop,Instr.box,newVar,newRow]
   ·exact h.elim
  ·exact h.elim
 ·rename_i t ps hop
  obtain⟨sv,v,h1,h2,h3⟩:=v8 hok.toTyOK g he h;exact eU (by have:=h3 w;simp only[execOp,hop,af,ak];rw[this];rfl) ⟨v,sv,st,loc,rfl,h1,rfl,fun _=>Below.refl _ _,g,Tr.refl _,h2⟩
 ·rename_i t n ps hop
  split at h
  ·obtain⟨sv,v,st',loc',w',h1,h2,h3,h4,h5,h6,h7⟩:=Aw hok.toTyOK g hO he h
   exact eU (by simp only[execOp,hop,af,ak];rw[h7];rfl) ⟨v,sv,st',loc',rfl,h1,h3,fun _=>h2,h4,h5,h6⟩
  unfold Eg at h;split at h
  ·rename_i sv0 hown
   have hp:∃x,n=1/\ps.toList=[(0,x)]/\iz cx.eT (aA O st loc w) sv0 (a.eval x):=by
    unfold Lk at hown;split at hown
    ·rename_i x hps
     have hr:=lr he x;split at hown
     ·rename_i m hm;cases hown;exact⟨x,rfl,hps,by rw[<-hm];exact hr⟩
     ·rename_i cs hm
      split at hown
      ·cases hown;exact⟨x,rfl,hps,by rw[<-hm];exact hr⟩
      ·cases hown
     ·cases hown
    ·cases hown
   obtain⟨x,rfl,hps,hr⟩:=hp;obtain⟨sv,v,st',loc',w',h1,h2,h3,h4,h5,h6,h7⟩:=BN hok.toTyOK g hO hr h;have hps':ps= #[(0,x)]:=aj.1 hps;exact eU (w':=w') (v:=v) (by simp only[execOp,hop,af,ak,hps'];rw[show(#[(0,x)]:Array (Nat×Operand)).map (fun(i,x)=>(i,a.eval x))= #[(0,a.eval x)]from by simp,h7];rfl) ⟨v,sv,st',loc',rfl,h1,h2,fun _=>h3,h4,h5,h6⟩
  obtain⟨c,v,w',h1,h2,h3,h4,h5,h6⟩:=wD hok.toTyOK g hO he h;exact eU (by simp only[execOp,hop,af,ak];rw[h6];rfl) ⟨v,_,st,loc,rfl,h1,rfl,fun _=>h2,h3,h4,h5⟩
 ·rename_i t l c hop
  obtain⟨sv,v,st',loc',w',h1,h2,h3,h4,h5,h6,h7⟩:=yN hok.toTyOK g hO (bN he l) (bN he c) h;exact eU (by simp only[execOp,hop,af,ak];rw[h7];rfl) ⟨v,sv,st',loc',rfl,h1,h3,fun _=>h2,h4,h5,h6⟩
 ·rename_i t x v hop
  have hst:∃st' loc' w',(K (.s (.one .any)) st').holds/\st'.env=st.env/\Good cx.eT X (aA O st' loc' w')/\Tr (aA O st loc w) (aA O st' loc' w')/\(Instr.storeAt t (a.eval x) (a.eval v)).run P w=.ok () w':=by
   have hx:=bN he x;unfold WD at h;split at h
   ·rename_i n i j hl
    rw[hl]at hx;split at h
    ·rename_i ty ht
     obtain⟨_,_,_,hf,_⟩:=fJ hok.toTyOK ht;exact BO g hO hf hx (lr he v) h
    ·exact h.elim
   ·split at h
    ·rename_i n hr
     split at h
     ·rename_i e zs hob
      have hv:=lr he v;rw[O4 hr]at hv;obtain⟨td,gd⟩:=mS g n;obtain⟨st',loc',w',k1,k2,k3,k4,k5⟩:=v7 (v:=.one (.d (.slice e) zs)) hok.toTyOK gd hO (hx.tr td) (yW g hob hv) h;exact⟨st',loc',w',k1,k2,k3,td.trans k4,k5⟩
     ·exact h.elim
    ·exact v7 hok.toTyOK g hO hx (lr he v) h
  obtain⟨st',loc',w',h1,h2,h3,h4,h5⟩:=hst;have hrun:(execOp a.eval o).run P w=.ok .skip w':=by
   simp only[execOp,hop,af,ak];rw[h5];rfl
  unfold bj;rw[hrun];have hk:ab (kindOf cx o) 3=true:=by simp[kindOf,hop]
  exact⟨undef,_,st',loc',rfl,h1,h2,fun e=>(by rw[hk]at e;cases e),h3,h4,aa⟩
 ·rename_i fn first caps hop
  split at h
  ·rename_i f ns hfi hcn
   obtain⟨k1,k2⟩:=wL he hcn;have hfi':first= #[]:=aj.1 hfi
   have hca:caps.map a.eval=(ns.map fun n=>(loc n).v).toArray:=by
    apply aj.1;rw[dy,k1]
   refine eU (w':=w) (v:=.func (.func f) #[] (ns.map fun n=>(loc n).v).toArray) ?_ ⟨_,_,st,loc,rfl,h,rfl,fun _=>Below.refl _ _,g,Tr.refl _,⟨rfl,k2⟩⟩;simp[execOp,hop,dz,hfi',hca]
  ·exact h.elim
 ·rename_i c hop
  unfold AB at h;split at h
  ·rename_i f hcal
   unfold O3 at h;split at h
   ·rename_i k caps hf
    split at h
    ·rename_i q sp hsp
     split at h
     ·exact h.elim
     rename_i hstill;obtain⟨⟨fn,hfn,hbody,hname⟩,hcall⟩:=hok.calls k q sp hsp;have hr:=bN he f;rw[hf]at hr;obtain⟨hfv,hcaps⟩:=hr;have hargs:=(Hb he c.args.toList).append (SD g (ns:=caps) fun n hn=>(hcaps n hn).1);have:=hcall O st loc w _ _ K h g hO hargs;have hrun:(execOp a.eval o).run P w=.ok (.enter k (c.args.toList.map a.eval++caps.map fun n=>(loc n).v).toArray) w:=by
      have e1:(c.args.map a.eval)++(caps.map fun n=>((aA O st loc w).loc n).v).toArray=(c.args.toList.map a.eval++caps.map fun n=>(loc n).v).toArray:=by
       apply aj.1;simp[aA]
      have e2:resolve a.eval c o.type=pure {target:=.fn (.func k) (caps.map fun n=>((aA O st loc w).loc n).v).toArray,args:=c.args.map a.eval}:=by
       simp[resolve,hcal,hfv,Deferred.ofValue]
      simp only[execOp,hop,e2,pure_bind,invoke,e1];exact wK hfn hbody hname _ w
     unfold bj;rw[hrun];refine bx this ?_;rintro e w' ⟨v,sv,st',loc',rfl,k1,k2,k3,k4,k5,k6⟩;refine⟨v,sv,st',loc',rfl,k1,k2,fun hl =>?_,k4,k5,k6⟩;cases q with
     |true=>exact k3 rfl
     |false=>
      exfalso;have:kindOf cx o=3:=by
       unfold kindOf;simp only[hop,hcal];split
       ·rename_i heq;cases heq
       ·rename_i heq;cases heq
       ·rename_i heq;cases heq
       ·rename_i f' heq
        have hfe:f=.func f':=by cases heq;rfl
        subst hfe;simp only[eE,ev]at hf;cases hf;rw[hsp]
       ·rw[show r5 cx o.dst=false by simpa using hstill]
       ·rfl
      rw[this]at hl;cases hl
    ·exact h.elim
   ·exact h.elim
  ·rename_i hcal
   split at h
   ·rename_i s x t t' harg hty
    split at h
    ·rename_i htt
     have htt:=ag htt;subst htt;have h1:c.args= #[s,x]:=aj.1 harg;have h2:c.argTypes= #[t,t]:=aj.1 hty;have happ:∃sv v st' loc' w',(K sv st').holds/\st'.env=st.env/\Good cx.eT X (aA O st' loc' w')/\Tr (aA O st loc w) (aA O st' loc' w')/\dO cx.eT (aA O st' loc' w') sv v/\
       (b7 #[t,t] o.type #[a.eval s,a.eval x]).run P w=.ok v w':=by
      have hs:=bN he s;have hx:=bN he x;split at h
      ·rename_i n m hl1 hl2
       rw[hl1]at hs;rw[hl2]at hx;exact Gc hok.toTyOK g hO hs hx h
      ·rename_i n hl1
       rw[hl1]at hs;split at h
       ·exact G9 hok.toTyOK g hO hs hx h
       ·exact tW (P:=P) (ty:=o.type) hok.toTyOK g hO hs hx h
      ·exact tW (P:=P) (ty:=o.type) hok.toTyOK g hO hs hx h
     obtain⟨sv,v,st',loc',w',k1,k2,k3,k4,k5,k6⟩:=happ;have hk:ab (kindOf cx o) 3=true:=by simp[kindOf,hop,hcal]
     refine eU (w':=w') (v:=v) ?_ ⟨v,sv,st',loc',rfl,k1,k2,fun e=>(by rw[hk]at e;cases e),k3,k4,k5⟩;simp[execOp,hop,resolve,hcal,h1,h2,invoke,builtin,k6]
    ·split at h
     case h_2=>exact h.elim
     rename_i e' xs n ys ht1 ht2 hs1 hx1;have h1:c.args= #[s,x]:=aj.1 harg;have h2:c.argTypes= #[t,t']:=aj.1 hty;obtain⟨te,ti,td,hu,hf⟩:=ie hok.toTyOK ht1;obtain⟨z,hz,hzr⟩:=hf.zero;have hzs:z.cells.size=(Ty.int .u8).size:=by rw[<-b8];exact(kZ (S:=aA O st loc w) (cx:=cx) hzr).length.symm.trans (iY _)
     have hs:=bN he s;have hx:=bN he x;rw[hs1]at hs;rw[hx1]at hx;obtain⟨hx,hxl⟩:=jI.1 hx;have hu':P.underlying t'=some .string:=ye hok.toTyOK ht2;obtain⟨sv,v,st',loc',w',k1,k2,k3,k4,k5,k6⟩:=tu (t:=t) (t':=t') (ty:=o.type) g hO hu hf hz hzs hs (wA.WB hu hu' hf hz ys _ _) h;have hk:ab (kindOf cx o) 3=true:=by simp[kindOf,hop,hcal]
     refine eU (w':=w') (v:=v) ?_ ⟨v,sv,st',loc',rfl,k1,k2,fun e=>(by rw[hk]at e;cases e),k3,k4,k5⟩;simp[execOp,hop,resolve,hcal,h1,h2,invoke,builtin,hx,k6]
   ·exact h.elim
  ·rename_i hcal
   split at h
   ·rename_i d s t t' harg hty
    have h1:c.args= #[d,s]:=aj.1 harg;have h2:c.argTypes= #[t,t']:=aj.1 hty;obtain⟨sv,v,st',loc',w',k1,k2,k3,k4,k5,k6⟩:=G4 (P:=P) (t':=t') (ty:=o.type) hok.toTyOK g hO (bN he d) (bN he s) h;have hk:ab (kindOf cx o) 3=true:=by simp[kindOf,hop,hcal]
    refine eU (w':=w') (v:=v) ?_ ⟨v,sv,st',loc',rfl,k1,k2,fun e=>(by rw[hk]at e;cases e),k3,k4,k5⟩;simp[execOp,hop,resolve,hcal,h1,h2,invoke,builtin,k6]
   ·exact h.elim
  ·rename_i hcal
   split at h
   ·rename_i x y harg
    have h1:c.args= #[x,y]:=aj.1 harg;obtain⟨c',v,k1,k2,k3⟩:=uP (P:=P) (bN he x) (bN he y) h;refine eU (w':=w) (v:=v) ?_ ⟨v,_,st,loc,rfl,k1,rfl,fun _=>Below.refl _ _,g,Tr.refl _,k2⟩;have k3:=k3 w;simp only[if_true]at k3;simp[execOp,hop,resolve,hcal,h1,invoke,builtin,dT,k3]
   ·exact h.elim
  ·rename_i hcal
   split at h
   ·rename_i x y harg
    have h1:c.args= #[x,y]:=aj.1 harg;obtain⟨c',v,k1,k2,k3⟩:=uP (P:=P) (bN he x) (bN he y) h;refine eU (w':=w) (v:=v) ?_ ⟨v,_,st,loc,rfl,k1,rfl,fun _=>Below.refl _ _,g,Tr.refl _,k2⟩;have k3:=k3 w;simp only[az,if_false]at k3;simp[execOp,hop,resolve,hcal,h1,invoke,builtin,ec,k3]
   ·exact h.elim
  ·exact read h
 ·exact read h
def uQ{st:St}{o:Oper}{K:SV->St->VC}{vc:VC}(h:BR cx st o K=some vc):kindOf cx o=3:=by
 unfold BR at h;split at h
 ·rename_i hop;simp[kindOf,hop]
 ·rename_i hop;simp[kindOf,hop]
 ·rename_i hop;simp[kindOf,hop]
 ·rename_i hop;simp[kindOf,hop]
 ·rename_i hop;simp[kindOf,hop]
 ·rename_i hop;simp[kindOf,hop]
 ·rename_i c hop
  split at h
  ·rename_i hcal;simp[kindOf,hop,hcal]
  ·rename_i hcal
   split at h
   ·rename_i x t harg hty
    split at h
    ·rename_i p hp;simp[kindOf,hop,hcal,hty,hp]
    ·cases h
   ·cases h
  ·cases h
 ·cases h
def SE(hok:lu P cx X){O:aH}{st:St}{loc:Nat->Loc}{w:World}{a:Act}(g:Good cx.eT X (aA O st loc w))(hO:eX O w)(he:gD cx.eT (aA O st loc w) st.env a)
  {o:Oper}{K:SV->St->VC}(h:(wJ cx st o K).holds):o.wp P a w (Gs cx X O K st (aA O st loc w) (ab (kindOf cx o) 3) a o.dst) Q:=by
 unfold wJ at h;split at h
 ·rename_i vc hm
  have hk:ab (kindOf cx o) 3=true:=by rw[uQ hm];rfl
  obtain⟨sv,v,st',loc',w',h1,h2,h3,h4,h5,h6⟩:=J4 hok.toTyOK g hO he hm h;rcases h6 with h6|⟨h6,rfl⟩
  ·exact eU h6 ⟨v,sv,st',loc',rfl,h1,h2,fun e=>(by rw[hk]at e;cases e),h3,h4,h5⟩
  ·unfold bj
   rw[h6];exact⟨undef,_,st',loc',rfl,h1,h2,fun e=>(by rw[hk]at e;cases e),h3,h4,aa⟩
 ·exact O5 hok g hO he h
end
inductive qF (ops:Array Oper) (i:Nat):Nat->Prop
 |dir {j o e}:ops[j]?=some o->e∈o.after->al .any e=true->e.on=i->qF ops i j
 |step {j o e}:ops[j]?=some o->e∈o.after->al .any e=true->qF ops i e.on->qF ops i j
def tY(ops:Array Oper)(listed:Array Bool):Prop:=
 ∀j o,ops[j]?=some o->listed.getD j false=true->∀e∈o.after,al .any e=true->listed.getD e.on false=true
def qF.listed{ops:Array Oper}{listed:Array Bool}{i j:Nat}(h:qF ops i j)(hc:tY ops listed):(∀o,ops[j]?=some o->∀e∈o.after,al .any e=true->listed.getD e.on false=true)->listed.getD i false=true:=by
 induction h with
 |dir ho he hb hi=>intro hj;rw[<-hi];exact hj _ ho _ he hb
 |step ho he hb _ ih=>intro hj;exact ih fun o' ho'=>hc _ o' ho' (hj _ ho _ he hb)
def Hc(ms:List Nat)(o:Oper):Nat:=
 o.after.toList.foldl (fun s e=>match al .any e with
  |true=>s ||| (1<<< e.on) ||| ms.getD e.on 0
  |false=>s) 0
def pY:List Oper->List Nat->List Nat
 |[],ms=>ms
 |o :: r,ms=>pY r (ms++[Hc ms o])
def BU{k i:Nat}(h:(1<<< k).testBit i=true):k=i:=by
 rw[c7,cd]at h;simpa using h
def MC{ops:Array Oper}{ms:List Nat}(hms:∀j,j<ms.length->∀i,(ms.getD j 0).testBit i=true->qF ops i j){j:Nat}{o:Oper}(ho:ops[j]?=some o) :
  ∀i,(Hc ms o).testBit i=true->qF ops i j:=by
 intro i hi;unfold Hc at hi;have key:∀(l:List Edge) (s:Nat),(∀e∈l,e∈o.after)->(s.testBit i=true->qF ops i j)->
   (l.foldl (fun s e=>match al .any e with|true=>s ||| (1<<< e.on) ||| ms.getD e.on 0|false=>s) s).testBit i=true->qF ops i j:=by
  intro l;induction l with
  |nil=>intro s _ hs h;exact hs h
  |cons e l ih=>
   intro s hl hs h;simp only[cw]at h;refine ih _ (fun e' he'=>hl e' (by simp[he'])) ?_ h;intro hb;split at hb
   ·rename_i hbind
    rw[cf,cf]at hb;simp only[cg]at hb;rcases hb with(hb|hb)|hb
    ·exact hs hb
    ·exact .dir ho (hl e (by simp)) hbind (BU hb)
    ·by_cases hlt:e.on<ms.length
     ·exact .step ho (hl e (by simp)) hbind (hms _ hlt i hb)
     ·rw[List.getD_eq_getElem?_getD,List.getElem?_eq_none (by omega)]at hb
      simp at hb
   ·exact hs hb
 exact key o.after.toList 0 (fun e he=>by simpa using he) (by simp) hi
def J5{ops:Array Oper}:∀(r:List Oper) (ms:List Nat),(∀j,j<ms.length->∀i,(ms.getD j 0).testBit i=true->qF ops i j)->(∀k o,r[k]?=some o->ops[ms.length+k]?=some o)->
  ∀j i,((pY r ms).getD j 0).testBit i=true->qF ops i j:=by
 intro r;induction r with
 |nil=>
  intro ms hms _ j i h;by_cases hlt:j<ms.length
  ·exact hms j hlt i h
  ·simp only[pY]at h
   rw[List.getD_eq_getElem?_getD,List.getElem?_eq_none (by omega)]at h;simp at h
 |cons o r ih=>
  intro ms hms hr;refine ih _ ?_ ?_
  ·intro j hj i h
   rw[bh,ed]at hj;by_cases hlt:j<ms.length
   ·rw[List.getD_eq_getElem?_getD,List.getElem?_append_left hlt,<-List.getD_eq_getElem?_getD]at h
    exact hms j hlt i h
   ·have e:j=ms.length:=by omega
    subst e;rw[List.getD_eq_getElem?_getD,List.getElem?_append_right (ai _)]at h;simp only[Nat.sub_self,List.getElem?_cons_zero,bq]at h;exact MC hms (by simpa using hr 0 o rfl) i h
  ·intro k o' hk
   have:=hr (k+1) o' (by simpa using hk);rw[bh,ed,show ms.length+1+k=ms.length+(k+1)from by omega];exact this
def jf(ops:List Oper):List Nat:=pY ops []
def O6{ops:Array Oper}{i j:Nat}(h:((jf ops.toList).getD j 0).testBit i=true):qF ops i j:=
 J5 ops.toList [] (fun j hj=>by simp at hj) (fun k o hk=>by simpa using hk) j i h
def fK(w:World)(A:aH)(w':World)(A':aH):Prop:=∀b o v,¬A b o->w.cell? ⟨b,o,none⟩=some v->w'.cell? ⟨b,o,none⟩=some v/\¬A' b o
def fK.refl(w:World)(A:aH):fK w A w A:=fun _ _ _ h h'=>⟨h',h⟩
def fK.trans{w1 w2 w3:World}{A1 A2 A3:aH}(h:fK w1 A1 w2 A2)(h':fK w2 A2 w3 A3):fK w1 A1 w3 A3:=fun b o v h1 h2=>have k:=h b o v h1 h2;h' b o v k.2 k.1
abbrev AE:=World->aH->World->aH->Prop
section
variable{P:Program}{ops:Array Oper}{Q:Exit->Act->World->Prop}{loud:Nat->Bool}
def wpS(P:Program)(ops:Array Oper)(loud:Nat->Bool)(Q:Exit->Act->World->Prop):Nat->Array Bool->Act->World->aH->Prop
 |0,listed,a,w,_=>au .any ops listed=[]/\Q .normal a w
 |n+1,listed,a,w,A=>(au .any ops listed=[]->Q .normal a w)/\
  ∀i∈au .any ops listed,wpOp P ops Q i (fun a' w'=>(loud i=false->Below w.heap.size w w')/\∃A',fK w A w' A'/\wpS P ops loud Q n (listed.setIfInBounds i true) a' w' A') a w
def Dp:∀(n:Nat) (listed:Array Bool) (a:Act) (w:World) (A:aH),wpS P ops loud Q n listed a w A->wpAny P .any ops Q n listed a w
 |0,_,_,_,_,h=>h
 |n+1,_,_,_,_,h=>⟨h.1,fun i hi=>wpOp_mono (fun a' w' h'=>let⟨A',_,h2⟩:=h'.2;Dp n _ a' w' A' h2) (h.2 i hi)⟩
def jn(P:Program)(ops:Array Oper)(C:AE)(o:Oper)(v:Value)(a:Act)(w:World)(A:aH):Prop:=
 (ar o (yielded ops a.tmps)=true/\∀w' A',C w A w' A'->(execOp a.eval o).run P w'=.ok (.value v) w')\/
 (ar o (yielded ops a.tmps)=false/\v=undef)
def jn.of_same{C:AE}(ht:∀a A b B c D,C a A b B->C b B c D->C a A c D){o:Oper}{v:Value}{a a':Act}{w w':World}{A A':aH}(hy:jn P ops C o v a w A)(hc:C w A w' A')(he:execOp a'.eval o=execOp a.eval o)
  (hw:ar o (yielded ops a'.tmps)=ar o (yielded ops a.tmps)):jn P ops C o v a' w' A':=by
 unfold jn at*;rw[he,hw];rcases hy with⟨h1,h2⟩|h
 ·exact .inl ⟨h1,fun w'' A'' hc'=>h2 w'' A'' (ht _ _ _ _ _ _ hc hc')⟩
 ·exact .inr h
def O7{C:AE}(ht:∀a A b B c D,C a A b B->C b B c D->C a A c D){j:Nat}{oi oj:Oper}{v:Value}(hj:ops[j]?=some oj)(hap:oi.apart ops oj=true)
  (hsi:∀cs b,oi.op≠.select cs b)(hsj:∀cs b,oj.op≠.select cs b)
  (hQ:∀c a w,Q (.panic c) (a.put oi.dst v) w->Q (.panic c) a w){K:Act->World->aH->Prop}{a:Act}{w:World}{A:aH}(hCw:∀w' A',(loud j=false->Below w.heap.size w w')->fK w A w' A'->C w A w' A')
  (hy:jn P ops C oi v a w A)(h:wpOp P ops Q j (fun a' w'=>(loud j=false->Below w.heap.size w w')/\∃A',fK w A w' A'/\K a' w' A') (a.put oi.dst v) w) :
  wpOp P ops Q j (fun a' w'=>(loud j=false->Below w.heap.size w w')/\∃A',fK w A w' A'/\jn P ops C oi v a' w' A'/\K (a'.put oi.dst v) w' A') a w:=by
 obtain⟨h1,h2,h3⟩:=Oper.apart_spec hap;have keep:∀(a:Act) (w':World) (A':aH),jn P ops C oi v a w A->C w A w' A'->∀u,jn P ops C oi v (a.put oj.dst u) w' A':=fun a w' A' hy hc u=>
  hy.of_same ht hc (execOp_put oi hsi a oj.dst u h3) (wanted_put oi a oj.dst u h3)
 have keepD:∀d,jn P ops C oi v {a with defers:=d :: a.defers} w A:=fun d=>by
  unfold jn at*;exact hy
 have fin:∀(u:Value) (w':World),((loud j=false->Below w.heap.size w w')/\∃A',fK w A w' A'/\K ((a.put oi.dst v).put oj.dst u) w' A')->
   (loud j=false->Below w.heap.size w w')/\∃A',fK w A w' A'/\jn P ops C oi v (a.put oj.dst u) w' A'/\K ((a.put oj.dst u).put oi.dst v) w' A':=by
  rintro u w' ⟨k1,A',k2,k3⟩;exact⟨k1,A',k2,keep a w' A' hy (hCw _ _ k1 k2) u,by rw[<-Act.put_comm a v u h2];exact k3⟩
 unfold wpOp at*;simp only[hj]at*;rw[wanted_put oj a oi.dst v h1]at h;split
 ·rename_i hw
  simp only[hw,if_true]at h;rcases h with h|⟨hasks,hlets⟩
  case inr=>exact .inr ⟨by unfold Oper.asks at*;rw[execOp_put oj hsj a oi.dst v h1]at hasks;exact hasks,hlets⟩
  refine .inl ?_;unfold bj at*;rw[execOp_put oj hsj a oi.dst v h1]at h;generalize (execOp a.eval oj).run P w=r at*;cases r with
  |ok n w'=>
   cases n <;> simp only[c8]at h ⊢
   case value u=>exact fin u w' h
   case skip=>exact fin _ w' h
   case defer d=>
    obtain⟨k1,A',k2,k3⟩:=h;refine⟨k1,A',k2,keep _ w' A' (keepD d) (hCw _ _ k1 k2) _,?_⟩;rw[<-Act.put_comm _ v undef h2,<-Act.put_defers];exact k3
   case enter f args=>
    refine bx h fun e w'' he =>?_
    cases e with
    |returned u=>exact fin u w'' he
    |panicked c=>exact hQ _ _ _ he
    |outgrown=>exact he
   case row row args=>exact Rows.mono h fun u w'' he=>fin u w'' he
  |halt x w'=>
   cases x <;> simp only[c8]at h ⊢
   case panic u=>exact hQ _ _ _ h
 ·rename_i hw
  simp only[hw]at h;exact fin _ w h
def jn.wpOp{C:AE}(hr:∀w A,C w A w A){i:Nat}{o:Oper}{v:Value}{a:Act}{w:World}{A:aH}(hi:ops[i]?=some o)(hy:jn P ops C o v a w A)
  {K:Act->World->aH->Prop}(h:K (a.put o.dst v) w A):wpOp P ops Q i (fun a' w'=>(loud i=false->Below w.heap.size w w')/\∃A',fK w A w' A'/\K a' w' A') a w:=by
 unfold Go.wpOp;simp only[hi];rcases hy with⟨hw,hv⟩|⟨hw,rfl⟩
 ·simp only[hw,if_true,bj,hv w A (hr w A),c8];exact .inl ⟨fun _=>Below.refl _ _,A,fK.refl _ _,h⟩
 ·simp only[hw,az,if_false];exact⟨fun _=>Below.refl _ _,A,fK.refl _ _,h⟩
def uR{listed:Array Bool}{i:Nat}(hc:tY ops listed)(hr:i∈au .any ops listed):tY ops (listed.setIfInBounds i true):=by
 intro j o ho hj e he hb;by_cases hij:i=j
 ·subst hij
  obtain⟨_,o',ho',hall⟩:=mem_ready.1 hr;rw[ho]at ho';cases ho';exact getD_set_true (hall e he hb)
 ·rw[getD_set_ne false hij]at hj
  exact getD_set_true (hc j o ho hj e he hb)
def O8{C:AE}(hrefl:∀w A,C w A w A)(ht:∀a A b B c D,C a A b B->C b B c D->C a A c D){i:Nat}{oi:Oper}{v:Value}(hi:ops[i]?=some oi)
  (hsel:∀(j:Nat) (o:Oper) cs b,ops[j]?=some o->o.op≠.select cs b)
  (hQ:∀c a w,Q (.panic c) (a.put oi.dst v) w->Q (.panic c) a w) :
  ∀(fuel:Nat) (listed:Array Bool) (a:Act) (w:World) (A:aH),tY ops listed->
   (∀j oj,ops[j]?=some oj->j≠i->listed.getD j true=false->(∀e∈oj.after,al .any e=true->e.on≠i)->oi.apart ops oj=true)->
   ((∀w A w' A',fK w A w' A'->C w A w' A')\/((∀w A w' A',Below w.heap.size w w'->C w A w' A')/\∀j,listed.getD j true=false->j≠i->loud j=true->qF ops i j))->
   i∈au .any ops listed->jn P ops C oi v a w A->
   wpS P ops loud Q fuel (listed.setIfInBounds i true) (a.put oi.dst v) w A->wpS P ops loud Q (fuel+1) listed a w A:=by
 intro fuel;induction fuel with
 |zero=>
  intro listed a w A _ _ _ hr hy H;refine⟨fun h=>(by rw[h]at hr;cases hr),fun j hj =>?_⟩;by_cases hji:j=i
  ·subst hji;exact hy.wpOp hrefl hi H
  ·have:=ready_mono hj hji
   rw[H.1]at this;cases this
 |succ fuel ih=>
  intro listed a w A fV hfree hC hr hy H;refine⟨fun h=>(by rw[h]at hr;cases hr),fun j hj =>?_⟩;by_cases hji:j=i
  ·subst hji;exact hy.wpOp hrefl hi H
  ·have h1:=H.2 j (ready_mono hj hji)
   obtain⟨hjun,oj,hoj,hall⟩:=mem_ready.1 hj;have hiun:listed.getD i false≠true:=by
    have h0:=(mem_ready.1 hr).1;rcases a7 i listed.size with h'|h'
    ·simp[h']at h0 ⊢;exact h0
    ·simp[Array.getElem?_eq_none h']
   have hnot:∀e∈oj.after,al .any e=true->e.on≠i:=fun e he hb heq=>hiun (heq▸hall e he hb)
   have hCw:∀w' A',(loud j=false->Below w.heap.size w w')->fK w A w' A'->C w A w' A':=by
    intro w' A' hb hd;rcases hC with hC|⟨hC1,hC2⟩
    ·exact hC w A w' A' hd
    ·refine hC1 w A w' A' (hb ?_)
     cases hl:loud j
     ·rfl
     ·exact absurd ((hC2 j hjun hji hl).listed fV (fun o ho=>by rw[hoj]at ho;cases ho;exact hall)) hiun
   have h2:=O7 ht hoj (hfree j oj hoj hji hjun hnot) (fun cs b=>hsel i oi cs b hi) (fun cs b=>hsel j oj cs b hoj) hQ hCw hy h1;have hfree':∀k ok,ops[k]?=some ok->k≠i->(listed.setIfInBounds j true).getD k true=false->
     (∀e∈ok.after,al .any e=true->e.on≠i)->oi.apart ops ok=true:=fun k ok hk hki hun hno=>by
    refine hfree k ok hk hki ?_ hno;by_cases hjk:j=k
    ·subst hjk;exact hjun
    ·rw[getD_set_ne true hjk]at hun;exact hun
   have hC':(∀w A w' A',fK w A w' A'->C w A w' A')\/((∀w A w' A',Below w.heap.size w w'->C w A w' A')/\∀k,(listed.setIfInBounds j true).getD k true=false->k≠i->loud k=true->qF ops i k):=by
    rcases hC with hC|⟨hC1,hC2⟩
    ·exact .inl hC
    ·refine .inr ⟨hC1,fun k hk=>hC2 k ?_⟩
     by_cases hjk:j=k
     ·subst hjk;exact hjun
     ·rw[getD_set_ne true hjk]at hk;exact hk
   refine wpOp_mono (fun a' w' h3 =>?_) h2;obtain⟨k1,A',k2,k3,k4⟩:=h3;refine⟨k1,A',k2,ih (listed.setIfInBounds j true) a' w' A' (uR fV hj) hfree' hC' (ready_mono hr (Ne.symm hji)) k3 ?_⟩;rw[Array.setIfInBounds_comm _ _ hji];exact k4
end
def BV(cx:Cx)(st:St)(dst:Option Tmp)(sv:SV)(K:St->VC):VC:=
 match dst with
 |some d=>match ao d cx.N with
  |true=>K {st with env:=(d,sv) :: st.env}
  |false =>.ff
 |none=>K st
def XC:Bool->Bool->Bool
 |true,b=>b
 |false,true=>false
 |false,false=>true
def nB(st:St)(d:Nat)(b:Bool):St:={st with env:=(d,.s (.one (.lit b))) :: st.env}
def yk(opl:List Oper)(st:St)(o:Oper)(exec skip:St->VC):VC:=
 match o.guard with
 |none=>exec st
 |some (j,want)=>match opl[j]? with
  |some oj=>match oj.dst with
   |some d=>match look st.env d with
    |some (.s (.one (.lit b)))=>match XC b want with
     |true=>exec st
     |false=>skip st
    |some (.s (.one (.d .bool g)))=>match want with
     |true =>.ite g (exec (nB st d true)) (skip (nB st d false))
     |false =>.ite g (skip (nB st d true)) (exec (nB st d false))
    |some (.mP [])=>skip st
    |_ =>.ff
   |none =>.ff
  |none =>.ff
def mU(cx:Cx)(opl:List Oper)(st:St)(o:Oper)(K:St->VC):VC:=
 yk opl st o (fun st=>wJ cx st o fun sv st'=>BV cx st' o.dst sv K) (fun st=>BV cx st o.dst (.mP []) K)
def Gt(cx:Cx)(opl:List Oper):List Oper->St->(St->VC)->VC
 |[],st,K=>K st
 |o :: r,st,K=>mU cx opl st o fun st'=>Gt cx opl r st' K
def kn(cx:Cx)(opl:List Oper)(j:Nat):Bool:=
 match opl[j]? with
 |some o=>ab (kindOf cx o) 3
 |none=>false
def tZ(cx:Cx)(opl:List Oper)(ms:List Nat)(listed:Array Bool)(i:Nat):Bool:=
 match opl[i]? with
 |some o=>match kindOf cx o with
  |0=>true
  |1=>(bz opl.length).all fun j=>ab j i || listed.getD j true || !(kn cx opl j) || (ms.getD j 0).testBit i
  |_=>false
 |none=>false
def uS(cx:Cx)(ops:Array Oper)(st:St)(i:Nat):Bool:=
 match ops[i]? with
 |some o=>match o.op,o.guard with
  |.load _ x,none=>match eE st.env x with
   |.oJ _ _=>true
   |_=>false
  |_,_=>false
 |none=>false
def Gu:List Nat->(Nat->VC)->VC
 |[],_ =>.leaf True
 |[i],f=>f i
 |i :: j :: r,f =>.both (f i) (Gu (j :: r) f)
def mI(cx:Cx)(ops:Array Oper)(ms:List Nat):Nat->Array Bool->St->(St->VC)->VC
 |0,listed,st,K=>match au .any ops listed with
  |[]=>K st
  |_ =>.ff
 |n+1,listed,st,K=>match au .any ops listed with
  |[]=>K st
  |r :: rs=>match(r :: rs).find? (fun i=>tZ cx ops.toList ms listed i || uS cx ops st i)with
   |some i=>match ops[i]? with
    |some o=>mU cx ops.toList st o fun st'=>mI cx ops ms n (listed.setIfInBounds i true) st' K
    |none =>.ff
   |none=>Gu (r :: rs) fun i=>match ops[i]? with
    |some o=>mU cx ops.toList st o fun st'=>mI cx ops ms n (listed.setIfInBounds i true) st' K
    |none =>.ff
def AF(o:Oper):Nat:=o.after.toList.foldl (fun s e=>match al .any e with
 |true=>s ||| (1<<< e.on)
 |false=>s) 0
def O9(am m i:Nat):Bool:=!(m.testBit i)&&ab (am&&&m) am
def nZ:List Nat->Nat->Nat->List Nat
 |[],_,_=>[]
 |am :: r,m,i=>match O9 am m i with
  |true=>i :: nZ r m (i+1)
  |false=>nZ r m (i+1)
def uT(m i:Nat):List Bool->List Nat->Nat->Bool
 |l :: ls,a :: ms,j=>match l&&(!(ab j i)&&(!(m.testBit j)&&!(a.testBit i)))with
  |true=>false
  |false=>uT m i ls ms (j+1)
 |_,_,_=>true
def yl(ks:List Nat)(ls:List Bool)(ms:List Nat)(m i:Nat):Bool:=
 match ks.getD i 2 with
 |0=>true
 |1=>uT m i ls ms 0
 |_=>false
def anyM(cx:Cx)(ops:Array Oper)(am ks:List Nat)(ls:List Bool)(ms:List Nat):Nat->Nat->St->(St->VC)->VC
 |0,m,st,K=>match nZ am m 0 with
  |[]=>K st
  |_ =>.ff
 |n+1,m,st,K=>match nZ am m 0 with
  |[]=>K st
  |r :: rs=>match(r :: rs).find? (fun i=>yl ks ls ms m i || uS cx ops st i)with
   |some i=>match ops[i]? with
    |some o=>mU cx ops.toList st o fun st'=>anyM cx ops am ks ls ms n (m ||| (1<<< i)) st' K
    |none =>.ff
   |none=>Gu (r :: rs) fun i=>match ops[i]? with
    |some o=>mU cx ops.toList st o fun st'=>anyM cx ops am ks ls ms n (m ||| (1<<< i)) st' K
    |none =>.ff
def WE(cx:Cx)(ops:Array Oper)(st:St)(K:St->VC):VC:=
 anyM cx ops (ops.toList.map AF) (ops.toList.map (kindOf cx)) (ops.toList.map fun o=>ab (kindOf cx o) 3) (jf ops.toList) ops.size 0 st K
def Dq(oj:Oper)(i:Nat):Bool:=oj.after.any fun e=>al .any e&&ab e.on i
def uU(ops:Array Oper):Bool:=
 ee ops&&(bz ops.size).all fun i=>(bz ops.size).all fun j=>match ops[i]?,ops[j]? with
  |some oi,some oj=>ab j i || Dq oj i || Dq oi j || oi.apart ops oj
  |_,_=>true
section
variable{X:Ext}{P:Program}{cx:Cx}{Q:Exit->Act->World->Prop}
structure fS (cx:Cx) (S:bI) (st:St) (a:Act):Prop where
 size:a.tmps.size=cx.N
 defers:a.defers=[]
 env:gD cx.eT S st.env a
def allM:Nat:=4000000
def nC(W:List Nat)(st st':St):Prop:=allM∉W->∀t,t∉W->∀v,look st'.env t=some v->look st.env t=some v
def fZ(cx:Cx)(X:Ext)(O:aH)(K:St->VC)(W:List Nat)(st:St)(S:bI):Act->World->Prop:=
 fun a' w'=>∃st' loc',(K st').holds/\Good cx.eT X (aA O st' loc' w')/\Tr S (aA O st' loc' w')/\fS cx (aA O st' loc' w') st' a'/\nC W st st'
def gD.tr{S S':bI}{env:List (Nat×SV)}{a:Act}(h:gD cx.eT S env a)(t:Tr S S'):gD cx.eT S' env a:=fun i sv hi=>(h i sv hi).tr t
def fS.put{S S':bI}{st st':St}{a:Act}{d:Nat}{v:Value}{sv:SV}(h:fS cx S st a)(t:Tr S S')(he:st'.env=(d,sv) :: st.env)(hd:d<cx.N)(hv:dO cx.eT S' sv v):fS cx S' st' (a.put (some d) v):=by
 refine⟨by simp[Act.put,h.size],h.defers,fun i sv' hi =>?_⟩;rw[he,cF]at hi;simp only[Act.put];by_cases e:d=i
 ·rw[if_pos e]at hi
  cases hi;subst e;rw[ba,Array.getElem?_setIfInBounds,if_pos rfl,if_pos (by rw[h.size];exact hd)];exact hv
 ·rw[if_neg e]at hi
  rw[ba,Array.getElem?_setIfInBounds,if_neg e,<-ba];exact(h.env i sv' hi).tr t
def n5{O:aH}{st st0:St}{S:bI}{loc:Nat->Loc}{w:World}{a:Act}{dst:Option Tmp}{sv:SV}{v:Value}{K:St->VC}{W:List Nat}(h:(BV cx st dst sv K).holds)
  (hA:fS cx S st0 a)(ht:Tr S (aA O st loc w))(he:st.env=st0.env)(hv:dO cx.eT (aA O st loc w) sv v)(g:Good cx.eT X (aA O st loc w))(hW:∀d,dst=some d->d∈W) :
  fZ cx X O K W st0 S (a.put dst v) w:=by
 unfold BV at h;split at h
 ·rename_i d
  split at h
  ·rename_i hd
   refine⟨{st with env:=(d,sv) :: st.env},loc,h,g,ht,?_,fun _ t htW v hv =>?_⟩
   ·have:=hA.put (st':={st with env:=(d,sv) :: st.env}) ht (by rw[<-he]) (mg hd) hv
    exact⟨this.size,this.defers,this.env⟩
   ·have hv:look ((d,sv) :: st.env) t=some v:=hv
    rw[cF,if_neg (fun(e:d=t)=>htW (e▸hW d rfl)),he]at hv;exact hv
  ·exact h.elim
 ·refine⟨st,loc,h,g,ht,⟨hA.size,hA.defers,by rw[he];exact hA.env.tr ht⟩,fun _ t _ v hv=>by rw[he]at hv;exact hv⟩
def Vf(a b:Bool):XC a b=(a == b):=by cases a <;> cases b <;> rfl
def Pa{O:aH}{st:St}{loc:Nat->Loc}{w:World}{a:Act}{d:Nat}{b:Bool}(hA:fS cx (aA O st loc w) st a)(hv:a.tmps.getD d undef=.bool b) :
  fS cx (aA O (nB st d b) loc w) (nB st d b) a:=by
 refine⟨hA.size,hA.defers,fun i sv hi =>?_⟩;simp only[nB,cF]at hi;by_cases e:d=i
 ·rw[if_pos e]at hi
  cases hi;subst e;rw[hv];rfl
 ·rw[if_neg e]at hi
  exact hA.env i sv hi
def Hd{ops:Array Oper}{a:Act}{j d:Nat}{oj:Oper}{b:Bool}(hj:ops[j]?=some oj)(hd:oj.dst=some d)(hlt:d<a.tmps.size)(hv:a.tmps.getD d undef=.bool b):yielded ops a.tmps j=some b:=by
 have:a.tmps[d]?=some (.bool b):=by
  rw[Array.getElem?_eq_getElem hlt];rw[ba,Array.getElem?_eq_getElem hlt]at hv;simpa using hv
 simp[yielded,hj,hd,this]
def wa{O:aH}{st:St}{loc:Nat->Loc}{w:World}{a:Act}{ops:Array Oper}{o:Oper}{exec skip:St->VC}{W:List Nat}(hA:fS cx (aA O st loc w) st a)(g:Good cx.eT X (aA O st loc w))
  (hW:∀(j:Nat) (oj:Oper) (d:Nat),ops[j]?=some oj->oj.dst=some d->d∈W)
  (h:(yk ops.toList st o exec skip).holds) :
  ∃st',fS cx (aA O st' loc w) st' a/\Good cx.eT X (aA O st' loc w)/\aA O st' loc w=aA O st loc w/\nC W st st'/\
   ((ar o (yielded ops a.tmps)=true/\(exec st').holds)\/(ar o (yielded ops a.tmps)=false/\(skip st').holds)):=by
 unfold yk at h;split at h
 ·rename_i hg
  exact⟨st,hA,g,rfl,fun _ _ _ _ h=>h,.inl ⟨by simp[ar,hg],h⟩⟩
 ·rename_i j want hg
  split at h
  ·rename_i oj hj
   have hj':ops[j]?=some oj:=by rw[<-Array.getElem?_toList];exact hj
   split at h
   ·rename_i d hd
    have key:∀b,a.tmps.getD d undef=.bool b->ar o (yielded ops a.tmps)=(b == want):=by
     intro b hb;have hlt:d<a.tmps.size:=by
      rcases a7 d a.tmps.size with h'|h'
      ·exact h'
      ·rw[ba,Array.getElem?_eq_none h']at hb;cases hb
     simp[ar,hg,Hd hj' hd hlt hb]
    have lit:∀b,a.tmps.getD d undef=.bool b->fS cx (aA O (nB st d b) loc w) (nB st d b) a/\Good cx.eT X (aA O (nB st d b) loc w)/\aA O (nB st d b) loc w=aA O st loc w/\nC W st (nB st d b):=
     fun b hb=>⟨Pa hA hb,g,rfl,fun _ t ht v hv=>by simp only[nB,cF]at hv;rwa [if_neg (fun(e:d=t)=>ht (e▸hW j oj d hj' hd))]at hv⟩
    split at h
    ·rename_i b hl
     have hv:a.tmps.getD d undef=.bool b:=hA.env d _ hl;have hk:=key b hv;rw[<-Vf]at hk;split at h
     ·rename_i he;exact⟨st,hA,g,rfl,fun _ _ _ _ h=>h,.inl ⟨by rw[hk,he],h⟩⟩
     ·rename_i he;exact⟨st,hA,g,rfl,fun _ _ _ _ h=>h,.inr ⟨by rw[hk,he],h⟩⟩
    ·rename_i b hl
     have hv:a.tmps.getD d undef=.bool b:=(eS (eT:=cx.eT) (S:=aA O st loc w) (b:=b)).1 (hA.env d _ hl);have hk:=key b hv;obtain⟨l1,l2,l3,l4⟩:=lit b hv;split at h
     ·cases b
      ·exact⟨_,l1,l2,l3,l4,.inr ⟨by rw[hk];rfl,h.2 rfl⟩⟩
      ·exact⟨_,l1,l2,l3,l4,.inl ⟨by rw[hk];rfl,h.1 rfl⟩⟩
     ·cases b
      ·exact⟨_,l1,l2,l3,l4,.inl ⟨by rw[hk];rfl,h.2 rfl⟩⟩
      ·exact⟨_,l1,l2,l3,l4,.inr ⟨by rw[hk];rfl,h.1 rfl⟩⟩
    ·rename_i hl
     obtain⟨vs,hv,hvs⟩:=hA.env d _ hl;cases hvs;have hy:yielded ops a.tmps j=none:=by
      rw[ba]at hv;simp only[yielded,hj',hd,Option.bind_some];cases ht:a.tmps[d]? with
      |none=>rfl
      |some x=>rw[ht]at hv;simp only[bq]at hv;subst hv;rfl
     exact⟨st,hA,g,rfl,fun _ _ _ _ h=>h,.inr ⟨by simp[ar,hg,hy],h⟩⟩
    ·exact h.elim
   ·exact h.elim
  ·exact h.elim
def nC.trans{W:List Nat}{a b c:St}(h:nC W a b)(h':nC W b c):nC W a c:=fun hm t ht v hv=>h hm t ht v (h' hm t ht v hv)
def fZ.mono{O:aH}{K:St->VC}{W:List Nat}{st st1:St}{S S1:bI}{a:Act}{w:World}(h:fZ cx X O K W st1 S1 a w)(ht:Tr S S1)(ha:nC W st st1):fZ cx X O K W st S a w:=by
 obtain⟨st',loc',k1,k2,k3,k4,k5⟩:=h;exact⟨st',loc',k1,k2,ht.trans k3,k4,ha.trans k5⟩
def wM(hok:lu P cx X){O:aH}{st:St}{loc:Nat->Loc}{w:World}{a:Act}{ops:Array Oper}{o:Oper}{K:St->VC}{W:List Nat}(hA:fS cx (aA O st loc w) st a)(g:Good cx.eT X (aA O st loc w))(hO:eX O w)
  (hW:∀(j:Nat) (oj:Oper) (d:Nat),ops[j]?=some oj->oj.dst=some d->d∈W)(hWo:∀d,o.dst=some d->d∈W)(h:(mU cx ops.toList st o K).holds) :
  if ar o (yielded ops a.tmps)then o.wp P a w (fun a' w'=>(ab (kindOf cx o) 3=false->Below w.heap.size w w')/\fZ cx X O K W st (aA O st loc w) a' w') Q
  else fZ cx X O K W st (aA O st loc w) (a.put o.dst undef) w:=by
 obtain⟨st',hA',g',hs,hag,hcase⟩:=wa hA g hW h;rcases hcase with⟨hw,h'⟩|⟨hw,h'⟩
 ·rw[if_pos hw]
  refine da ?_ (SE hok g' hO hA'.env h');rintro a' w' ⟨v,sv,st2,loc2,rfl,k1,k2,k3,k4,k5,k6⟩;refine⟨fun hl=>k3 hl,?_⟩;exact(n5 k1 hA' k5 k2 k6 k4 hWo).mono (by rw[hs];exact Tr.refl _) hag
 ·rw[if_neg (by simp[hw])]
  exact(n5 (loc:=loc) (w:=w) h' hA' (Tr.refl _) rfl (show dO cx.eT _ (.mP []) undef from⟨[],rfl,.nil⟩) g' hWo).mono (by rw[hs];exact Tr.refl _) hag
def yY(hok:lu P cx X){O:aH}{ops:Array Oper}{W:List Nat}(hW:∀(j:Nat) (oj:Oper) (d:Nat),ops[j]?=some oj->oj.dst=some d->d∈W){K:St->VC}:∀(l:List Oper) {st:St} {loc:Nat->Loc} {w:World} {a:Act},(∀o∈l,∀d,o.dst=some d->d∈W)->
  fS cx (aA O st loc w) st a->Good cx.eT X (aA O st loc w)->eX O w->(Gt cx ops.toList l st K).holds->(∀st' loc' a' w',(K st').holds->Good cx.eT X (aA O st' loc' w')->Tr (aA O st loc w) (aA O st' loc' w')->fS cx (aA O st' loc' w') st' a'->nC W st st'->Q .normal a' w')->
  wpList P ops Q l a w:=by
 intro l;induction l with
 |nil=>intro st loc w a _ hA g _ h hq;exact hq st loc a w h g (Tr.refl _) hA fun _ _ _ _ h=>h
 |cons o l ih=>
  intro st loc w a hWl hA g hO h hq;have hs:=wM (Q:=Q) (P:=P) hok hA g hO hW (hWl o (by simp)) h;have next:∀a' w',fZ cx X O (fun st'=>Gt cx ops.toList l st' K) W st (aA O st loc w) a' w'->wpList P ops Q l a' w':=by
   rintro a' w' ⟨st',loc',k1,k2,k3,k4,k5⟩;exact ih (fun o' ho'=>hWl o' (by simp[ho'])) k4 k2 (hO.tr k3.size) k1 fun st2 loc2 a2 w2 m1 m2 m3 m4 m5=>hq st2 loc2 a2 w2 m1 m2 (k3.trans m3) m4 (k5.trans m5)
  unfold wpList;split
  ·rename_i hw
   rw[if_pos hw]at hs;exact .inl (da (fun a' w' h'=>next a' w' h'.2) hs)
  ·rename_i hw
   rw[if_neg hw]at hs;exact next _ _ hs
def Pb(hok:lu P cx X){O:aH}{st:St}{loc:Nat->Loc}{w:World}{a:Act}(g:Good cx.eT X (aA O st loc w))(hO:eX O w)(he:gD cx.eT (aA O st loc w) st.env a)
  {o:Oper}{K:SV->St->VC}(hk:kindOf cx o=0\/kindOf cx o=1)(h:(wJ cx st o K).holds) :
  ∃v sv st' loc',(K sv st').holds/\st'.env=st.env/\Good cx.eT X (aA O st' loc' w)/\Tr (aA O st loc w) (aA O st' loc' w)/\dO cx.eT (aA O st' loc' w) sv v/\
   ∀w',(kindOf cx o=0\/Below w.heap.size w w')->(execOp a.eval o).run P w'=.ok (.value v) w':=by
 have same:∀{sv:SV} {v:Value},(K sv st).holds->dO cx.eT (aA O st loc w) sv v->(∀w',(kindOf cx o=0\/Below w.heap.size w w')->(execOp a.eval o).run P w'=.ok (.value v) w')->
   ∃v sv st' loc',(K sv st').holds/\st'.env=st.env/\Good cx.eT X (aA O st' loc' w)/\Tr (aA O st loc w) (aA O st' loc' w)/\dO cx.eT (aA O st' loc' w) sv v/\
   ∀w',(kindOf cx o=0\/Below w.heap.size w w')->(execOp a.eval o).run P w'=.ok (.value v) w':=
  fun h1 h2 h3=>⟨_,_,st,loc,h1,rfl,g,Tr.refl _,h2,h3⟩
 have pure:(BD cx st o.op fun sv=>K sv st).holds->∃v sv st' loc',(K sv st').holds/\st'.env=st.env/\Good cx.eT X (aA O st' loc' w)/\Tr (aA O st loc w) (aA O st' loc' w)/\dO cx.eT (aA O st' loc' w) sv v/\
   ∀w',(kindOf cx o=0\/Below w.heap.size w w')->(execOp a.eval o).run P w'=.ok (.value v) w':=by
  intro h;obtain⟨sv,v,h1,h2,h3⟩:=wu (P:=P) hok.toTyOK g he h;exact same h1 h2 fun w' _=>h3 w'
 have mov:∀x ty,(∀w',(execOp a.eval o).run P w'=.ok (.value (a.eval x)) w')->(yg cx st x ty K).holds->∃v sv st' loc',(K sv st').holds/\st'.env=st.env/\Good cx.eT X (aA O st' loc' w)/\Tr (aA O st loc w) (aA O st' loc' w)/\dO cx.eT (aA O st' loc' w) sv v/\
   ∀w',(kindOf cx o=0\/Below w.heap.size w w')->(execOp a.eval o).run P w'=.ok (.value v) w':=by
  intro x ty hrun h;obtain⟨sv,st',loc',h1,h2,h3,h4,h5⟩:=yU g hO he h;exact⟨_,sv,st',loc',h1,h2,h3,h4,h5,fun w' _=>hrun w'⟩
 have read:(ph cx st o.op fun sv=>K sv st).holds->∃v sv st' loc',(K sv st').holds/\st'.env=st.env/\Good cx.eT X (aA O st' loc' w)/\Tr (aA O st loc w) (aA O st' loc' w)/\dO cx.eT (aA O st' loc' w) sv v/\
   ∀w',(kindOf cx o=0\/Below w.heap.size w w')->(execOp a.eval o).run P w'=.ok (.value v) w':=by
  intro h;unfold ph at h;simp only at h;split at h
  ·rename_i t x i hop
   split at h
   ·rename_i n hn
    obtain⟨k,hk',_⟩:=nz hn (bN he i);obtain⟨c,u,h1,h2,h3⟩:=D8 (P:=P) hok.toTyOK g (k:=k) (bN he x) h;exact same h1 h2 fun w' _=>by simp[execOp,hop,hk',h3]
   ·exact h.elim
  ·rename_i t x f hop
   obtain⟨c,u,h1,h2,h3⟩:=yS (P:=P) hok.toTyOK (bN he x) h;exact same h1 h2 fun w' _=>by simp[execOp,hop,h3]
  ·rename_i t x hop
   obtain⟨c,u,h1,h2,h3⟩:=uJ (P:=P) hok.toTyOK g (bN he x) h;refine same h1 h2 fun w' hb =>?_
   have hb:Below w.heap.size w w':=by
    rcases hb with hb|hb
    ·simp[kindOf,hop]at hb
    ·exact hb
   simp[execOp,hop,h3 w' hb]
  ·rename_i t x lo hi hop
   obtain⟨c,u,h1,h2,h3⟩:=yT (P:=P) hok.toTyOK g he (bN he x) h;exact same h1 h2 fun w' _=>by simp[execOp,hop,h3]
  ·exact pure h
 unfold wJ at h;split at h
 ·rename_i hm;rw[uQ hm]at hk;omega
 unfold BT at h;split at h
 ·rename_i s t x hop
  unfold AD at h;split at h
  ·rename_i hs ht;simp[kindOf,hop,ht]at hk
  ·rename_i hs ht;simp[kindOf,hop,ht]at hk
  ·exact read h
  ·exact h.elim
 ·rename_i x hop
  exact mov x _ (fun w'=>by simp[execOp,hop]) h
 ·rename_i x hop
  unfold MB at h;split at h
  ·obtain⟨sv,st',loc',h1,h2,h3,h4,h5⟩:=wI g hO he h
   exact⟨_,sv,st',loc',h1,h2,h3,h4,h5,fun w' _=>by simp[execOp,hop]⟩
  ·split at h
   ·rename_i hd
    exact same h (Eh hd (lq he x)) fun w' _=>by simp[execOp,hop]
   ·exact mov x _ (fun w'=>by simp[execOp,hop]) h
 ·rename_i t hop;simp[kindOf,hop]at hk
 ·rename_i t x hop;simp[kindOf,hop]at hk
 ·rename_i t ps hop
  obtain⟨sv,v,h1,h2,h3⟩:=v8 hok.toTyOK g he h;exact same h1 h2 fun w' _=>by have:=h3 w';simp only[execOp,hop,af,ak];rw[this];rfl
 ·rename_i t n ps hop;simp[kindOf,hop]at hk
 ·rename_i t l c hop;simp[kindOf,hop]at hk
 ·rename_i t x v hop;simp[kindOf,hop]at hk
 ·rename_i fn first caps hop
  split at h
  ·rename_i f ns hfi hcn
   obtain⟨k1,k2⟩:=wL he hcn;have hfi':first= #[]:=aj.1 hfi
   have hca:caps.map a.eval=(ns.map fun n=>(loc n).v).toArray:=by
    apply aj.1;rw[dy,k1]
   refine same (v:=.func (.func f) #[] (ns.map fun n=>(loc n).v).toArray) h ⟨rfl,k2⟩ fun w' _ =>?_
   simp[execOp,hop,dz,hfi',hca]
  ·exact h.elim
 ·rename_i c hop
  unfold AB at h;split at h
  ·rename_i f hcal
   exfalso;have:kindOf cx o=2\/kindOf cx o=3:=by
    unfold kindOf;simp only[hop,hcal];split
    ·rename_i heq;cases heq
    ·rename_i heq;cases heq
    ·rename_i heq;cases heq
    ·split
     ·exact .inl rfl
     ·exact .inr rfl
    ·split
     ·exact .inl rfl
     ·exact .inr rfl
    ·exact .inr rfl
   omega
  ·rename_i hcal;simp[kindOf,hop,hcal]at hk
  ·rename_i hcal;simp[kindOf,hop,hcal]at hk
  ·rename_i hcal
   split at h
   ·rename_i x y harg
    have h1:c.args= #[x,y]:=aj.1 harg;obtain⟨c',v,k1,k2,k3⟩:=uP (P:=P) (bN he x) (bN he y) h;refine same (v:=v) k1 k2 fun w' _ =>?_
    have k3:=k3 w';simp only[if_true]at k3;simp[execOp,hop,resolve,hcal,h1,invoke,builtin,dT,k3]
   ·exact h.elim
  ·rename_i hcal
   split at h
   ·rename_i x y harg
    have h1:c.args= #[x,y]:=aj.1 harg;obtain⟨c',v,k1,k2,k3⟩:=uP (P:=P) (bN he x) (bN he y) h;refine same (v:=v) k1 k2 fun w' _ =>?_
    have k3:=k3 w';simp only[az,if_false]at k3;simp[execOp,hop,resolve,hcal,h1,invoke,builtin,ec,k3]
   ·exact h.elim
  ·exact read h
 ·exact read h
def MD{ops:Array Oper}{st:St}{i:Nat}{o:Oper}(ho:ops[i]?=some o)(h:uS cx ops st i=true):∃t x u y,o.op=.load t x/\o.guard=none/\eE st.env x=.oJ u y:=by
 unfold uS at h;rw[ho]at h;simp only at h;split at h
 ·rename_i t x hop hg
  split at h
  ·rename_i u y hev;exact⟨t,x,u,y,hop,hg,hev⟩
  ·cases h
 ·cases h
def Pc{ops:Array Oper}{loud:Nat->Bool}{n:Nat}{listed:Array Bool}{a:Act}{w:World}{A A':aH}(h:fK w A w A')(hw:wpS P ops loud Q n listed a w A'):wpS P ops loud Q n listed a w A:=by
 cases n with
 |zero=>exact hw
 |succ n=>exact⟨hw.1,fun i hi=>wpOp_mono (fun a' w' h'=>⟨h'.1,let⟨A2,k1,k2⟩:=h'.2;⟨A2,h.trans k1,k2⟩⟩) (hw.2 i hi)⟩
def Vh(hok:lu P cx X){O:aH}{st:St}{loc:Nat->Loc}{w:World}{a:Act}(g:Good cx.eT X (aA O st loc w))(hO:eX O w)(he:gD cx.eT (aA O st loc w) st.env a)
  {o:Oper}{K:SV->St->VC}{t:TypeId}{x:Operand}{u:Ty}{y:D u}(hop:o.op=.load t x)(hev:eE st.env x=.oJ u y)(h:(wJ cx st o K).holds) :
  ∃v sv,(K sv st).holds/\dO cx.eT (aA O st loc w) sv v/\∀w' A',fK w (aA O st loc w).A w' A'->(execOp a.eval o).run P w'=.ok (.value v) w':=by
 have hx:=bN he x;rw[hev]at hx;unfold wJ at h;split at h
 ·rename_i hm;have:=uQ hm;simp[kindOf,hop]at this
 unfold BT at h;rw[hop]at h;simp only at h;unfold ph at h;simp only at h;rw[hev]at h;unfold wx at h;split at h
 ·rename_i ty ht
  obtain⟨m,i,d,hf,hs⟩:=fJ hok.toTyOK ht;simp only at h;split at h
  ·rename_i hb
   obtain⟨b,o',us,hvx,hr,hrow⟩:=hx;have hr:=mQ hb y hr;obtain⟨v,h1,h2⟩:=gS hf hs hr.length w (fun j v hj=>(hrow j v hj).1);refine⟨v,_,h,nY hr h2,fun w' A' hd =>?_⟩;obtain⟨v',h3,h4⟩:=gS (P:=P) hf hs hr.length w' (fun j v hj=>(hd _ _ _ (hrow j v hj).2 (hrow j v hj).1).1);have e:v'=v:=by
    split at h2
    ·rename_i ho;rw[if_pos ho]at h4;rw[h2]at h4;exact(List.cons.inj h4).1.symm
    ·rename_i ho;rw[if_neg ho]at h4;rw[h2,h4]
   have:=h3 w' (Below.refl _ _);rw[e]at this;simp[execOp,hop,hvx,this]
  ·exact h.elim
 ·exact h.elim
def Ge{ops:Array Oper}(h:uU ops=true):ee ops=true/\∀(i j:Nat) (oi oj:Oper),ops[i]?=some oi->ops[j]?=some oj->j≠i->Dq oj i=false->Dq oi j=false->oi.apart ops oj=true:=by
 simp only[uU,ae,b3,ef]at h;refine⟨h.1,fun i j oi oj hi hj hne h1 h2 =>?_⟩;have:=h.2 i (Array.getElem?_eq_some_iff.1 hi).1 j (Array.getElem?_eq_some_iff.1 hj).1;rw[hi,hj]at this;simp only[cg,h1,h2,az,or_false]at this;rcases this with this|this
 ·exact absurd (ag this) hne
 ·exact this
def BW{oj:Oper}{i:Nat}(h:∀e∈oj.after,al .any e=true->e.on≠i):Dq oj i=false:=by
 cases hd:Dq oj i
 ·rfl
 ·obtain⟨e,he,hb⟩:=Array.any_eq_true'.1 hd
  simp only[ae]at hb;exact absurd (ag hb.2) (h e he hb.1)
def Pd{l:List Nat}{f:Nat->VC}(h:(Gu l f).holds):∀i∈l,(f i).holds:=by
 induction l with
 |nil=>simp
 |cons i l ih=>
  cases l with
  |nil=>intro j hj;simp at hj;subst hj;exact h
  |cons j r=>
   intro k hk;rcases ah.1 hk with rfl|hk
   ·exact h.1
   ·exact ih h.2 k hk
def yZ(hok:lu P cx X){O:aH}{ops:Array Oper}{W:List Nat}(hW:∀(j:Nat) (oj:Oper) (d:Nat),ops[j]?=some oj->oj.dst=some d->d∈W)(hreg:uU ops=true){K:St->VC}
  (hQp:∀c a w,¬Q (.panic c) a w):∀(n:Nat) (listed:Array Bool) {st:St} {loc:Nat->Loc} {w:World} {a:Act},tY ops listed->
  fS cx (aA O st loc w) st a->Good cx.eT X (aA O st loc w)->eX O w->(mI cx ops (jf ops.toList) n listed st K).holds->
  (∀st' loc' a' w',(K st').holds->Good cx.eT X (aA O st' loc' w')->Tr (aA O st loc w) (aA O st' loc' w')->fS cx (aA O st' loc' w') st' a'->nC W st st'->Q .normal a' w')->
  wpS P ops (kn cx ops.toList) Q n listed a w (aA O st loc w).A:=by
 intro n;induction n with
 |zero=>
  intro listed st loc w a _ hA g _ h hq;simp only[mI]at h;split at h
  ·rename_i hr;exact⟨hr,hq st loc a w h g (Tr.refl _) hA fun _ _ _ _ h=>h⟩
  ·exact h.elim
 |succ n ih=>
  intro listed st loc w a fV hA g hO h hq;simp only[mI]at h;split at h
  ·rename_i hr
   exact⟨fun _=>hq st loc a w h g (Tr.refl _) hA fun _ _ _ _ h=>h,by rw[hr];simp⟩
  ·rename_i r rs hr
   have one:∀i∈au .any ops listed,(match ops[i]? with|some o=>mU cx ops.toList st o fun st'=>mI cx ops (jf ops.toList) n (listed.setIfInBounds i true) st' K|none=>VC.ff).holds->
     wpOp P ops Q i (fun a' w'=>(kn cx ops.toList i=false->Below w.heap.size w w')/\∃A',fK w (aA O st loc w).A w' A'/\wpS P ops (kn cx ops.toList) Q n (listed.setIfInBounds i true) a' w' A') a w:=by
    intro i hi h;split at h
    ·rename_i o ho
     have hs:=wM (Q:=Q) (P:=P) hok hA g hO hW (fun d hd=>hW i o d ho hd) h;have hl:kn cx ops.toList i=ab (kindOf cx o) 3:=by
      unfold kn;rw[Array.getElem?_toList,ho]
     have next:∀a' w',fZ cx X O (fun st'=>mI cx ops (jf ops.toList) n (listed.setIfInBounds i true) st' K) W st (aA O st loc w) a' w'->∃A',fK w (aA O st loc w).A w' A'/\wpS P ops (kn cx ops.toList) Q n (listed.setIfInBounds i true) a' w' A':=by
      rintro a' w' ⟨st',loc',k1,k2,k3,k4,k5⟩;exact⟨_,k3.cell,ih _ (uR fV hi) k4 k2 (hO.tr k3.size) k1 fun st2 loc2 a2 w2 m1 m2 m3 m4 m5=>hq st2 loc2 a2 w2 m1 m2 (k3.trans m3) m4 (k5.trans m5)⟩
     unfold wpOp;simp only[ho];split
     ·rename_i hw
      rw[if_pos hw]at hs;exact .inl (da (fun a' w' h'=>⟨fun e=>h'.1 (by rw[<-hl];exact e),next a' w' h'.2⟩) hs)
     ·rename_i hw
      rw[if_neg hw]at hs;exact⟨fun _=>Below.refl _ _,next _ _ hs⟩
    ·exact h.elim
   split at h
   ·rename_i i hf
    have hmem:i∈au .any ops listed:=by rw[hr];exact List.mem_of_find?_eq_some hf
    have hst:=List.find?_some hf;split at h
    ·rename_i o ho
     have hol:ops.toList[i]?=some o:=by rw[Array.getElem?_toList];exact ho
     obtain⟨hsel,hap⟩:=Ge hreg;have hfree:∀j oj,ops[j]?=some oj->j≠i->listed.getD j true=false->(∀e∈oj.after,al .any e=true->e.on≠i)->o.apart ops oj=true:=by
      intro j oj hj hji hun hno;refine hap i j o oj ho hj hji (BW hno) (BW fun e he hb heq =>?_);obtain⟨_,o',ho',hall⟩:=mem_ready.1 hmem;rw[ho]at ho';cases ho';have:=hall e he hb;rw[heq]at this;rcases a7 j listed.size with h'|h'
      ·simp[h']at hun this;rw[hun]at this;cases this
      ·simp[Array.getElem?_eq_none h']at this
     have fin:∀{C:AE} (hCr:∀w A,C w A w A) (hCt:∀a A b B c D,C a A b B->C b B c D->C a A c D)
       (hCC:(∀w A w' A',fK w A w' A'->C w A w' A')\/((∀w A w' A',Below w.heap.size w w'->C w A w' A')/\∀j,listed.getD j true=false->j≠i->kn cx ops.toList j=true->qF ops i j))
       {v:Value},jn P ops C o v a w (aA O st loc w).A->fZ cx X O (fun st'=>mI cx ops (jf ops.toList) n (listed.setIfInBounds i true) st' K) W st (aA O st loc w) (a.put o.dst v) w->wpS P ops (kn cx ops.toList) Q (n+1) listed a w (aA O st loc w).A:=by
      intro C hCr hCt hCC v hy ⟨st',loc',k1,k2,k3,k4,k5⟩;refine O8 hCr hCt ho (fun j o' cs b hj=>Region.noSelect_spec hsel j o' cs b hj) (fun c a w h=>(hQp _ _ _ h).elim) n listed a w _ fV hfree hCC hmem hy ?_;exact Pc k3.cell (ih _ (uR fV hmem) k4 k2 (hO.tr k3.size) k1 fun st2 loc2 a2 w2 m1 m2 m3 m4 m5=>hq st2 loc2 a2 w2 m1 m2 (k3.trans m3) m4 (k5.trans m5))
     cases hd:uS cx ops st i with
     |true=>
      obtain⟨t,x,u,y,hop,hg,hev⟩:=MD ho hd;have h':(wJ cx st o fun sv st'=>BV cx st' o.dst sv fun st'=>mI cx ops (jf ops.toList) n (listed.setIfInBounds i true) st' K).holds:=by
       unfold mU yk at h;rw[hg]at h;exact h
      obtain⟨v,sv,m1,m2,m3⟩:=Vh hok g hO hA.env hop hev h';have hw:ar o (yielded ops a.tmps)=true:=by unfold ar;rw[hg]
      refine fin (C:=fK) fK.refl (fun _ _ _ _ _ _=>fK.trans) (.inl fun _ _ _ _ h=>h) (v:=v) (.inl ⟨hw,fun w' A' hc=>m3 w' A' hc⟩) ?_;exact(n5 m1 hA (Tr.refl _) rfl m2 g (fun d hd=>hW i o d ho hd))
     |false=>
      have hkind:kindOf cx o=0\/(kindOf cx o=1/\∀j,j<ops.size->j≠i->listed.getD j true=false->kn cx ops.toList j=true->qF ops i j):=by
       rw[hd,Bool.or_false]at hst;simp only[tZ,hol]at hst;split at hst
       ·rename_i hk;exact .inl hk
       ·rename_i hk
        refine .inr ⟨hk,fun j hj hji hun hl =>?_⟩;rw[b3]at hst;have:=hst j (by rw[ef];simpa using hj);simp only[cg,hun,hl,ct,az,or_false]at this;rcases this with this|this
        ·exact absurd (ag this) hji
        ·exact O6 this
       ·cases hst
      let C:AE:=fun w _ w' _=>kindOf cx o=0\/Below w.heap.size w w'
      have hCr:∀w A,C w A w A:=fun w A =>.inr (Below.refl _ _)
      have hCt:∀a A b B c D,C a A b B->C b B c D->C a A c D:=by
       intro a A b B c D h1 h2;rcases h1 with h1|h1
       ·exact .inl h1
       ·rcases h2 with h2|h2
        ·exact .inl h2
        ·exact .inr (h1.trans (h2.mono h1.size))
      have hCC:(∀w A w' A',fK w A w' A'->C w A w' A')\/((∀w A w' A',Below w.heap.size w w'->C w A w' A')/\∀j,listed.getD j true=false->j≠i->kn cx ops.toList j=true->qF ops i j):=by
       rcases hkind with hk|⟨hk,hanc⟩
       ·exact .inl fun _ _ _ _ _ =>.inl hk
       ·refine .inr ⟨fun _ _ _ _ hb =>.inr hb,fun j hun hji hl=>hanc j ?_ hji hun hl⟩
        rcases a7 j ops.size with hh|hh
        ·exact hh
        ·unfold kn at hl
         rw[Array.getElem?_toList,Array.getElem?_eq_none hh]at hl;cases hl
      unfold mU at h;obtain⟨st1,hA1,g1,hs1,hag1,hcase⟩:=wa hA g hW h;rcases hcase with⟨hw,h'⟩|⟨hw,h'⟩
      ·obtain⟨v,sv,st2,loc2,m1,m2,m3,m4,m5,m6⟩:=Pb hok g1 hO hA1.env (hkind.imp id (·.1)) h'
       refine fin hCr hCt hCC (v:=v) (.inl ⟨hw,fun w' _ hc=>m6 w' hc⟩) ?_;exact(n5 m1 hA1 m4 m2 m5 m3 (fun d hd=>hW i o d ho hd)).mono (by rw[hs1];exact Tr.refl _) hag1
      ·refine fin hCr hCt hCC (v:=undef) (.inr ⟨hw,rfl⟩) ?_
       exact(n5 (loc:=loc) (w:=w) h' hA1 (Tr.refl _) rfl (show dO cx.eT _ (.mP []) undef from⟨[],rfl,.nil⟩) g1 (fun d hd=>hW i o d ho hd)).mono (by rw[hs1];exact Tr.refl _) hag1
    ·exact h.elim
   ·have hall:=Pd h
    refine⟨fun e=>(by rw[hr]at e;cases e),fun i hi=>one i hi ?_⟩;exact hall i (by rw[<-hr];exact hi)
end
structure wN (ops:Array Oper) (m:Nat) (listed:Array Bool):Prop where
 size:listed.size=ops.size
 bits:∀k,m.testBit k=listed.getD k false
def wN.out{ops:Array Oper}{m:Nat}{listed:Array Bool}(h:wN ops m listed){i:Nat}(hi:i<ops.size):listed.getD i true=m.testBit i:=by
 rw[h.bits];simp[h.size,hi]
def wN.set{ops:Array Oper}{m:Nat}{listed:Array Bool}(h:wN ops m listed){i:Nat}(hi:i<ops.size):wN ops (m ||| (1<<< i)) (listed.setIfInBounds i true):=by
 refine⟨by simp[h.size],fun k =>?_⟩;rw[cf,h.bits,c7,cd];by_cases e:i=k
 ·subst e;simp[h.size,hi]
 ·simp[e,Array.getElem?_setIfInBounds]
def Vi(a b m:Nat):(ab ((a ||| b)&&&m) (a ||| b))=(ab (a&&&m) a&&ab (b&&&m) b):=by
 rw[bk,ae,ch,ch,ch];constructor
 ·intro h
  have hb:∀k,(a.testBit k || b.testBit k)=true->m.testBit k=true:=fun k hk=>by
   have:=congrArg (fun x=>x.testBit k) h;simp only[cj,cf]at this;rw[hk]at this;simpa using this
  constructor <;> apply eg <;> intro k <;> rw[cj]
  ·cases ha:a.testBit k with
   |false=>rfl
   |true=>rw[hb k (by rw[ha];rfl)];rfl
  ·cases ha:b.testBit k with
   |false=>rfl
   |true=>rw[hb k (by rw[ha];simp)];rfl
 ·rintro⟨h1,h2⟩
  rw[Nat.and_or_distrib_right,h1,h2]
def WG(k m:Nat):ab ((1<<< k)&&&m) (1<<< k)=m.testBit k:=by
 rw[bk,ch,c7];constructor
 ·intro h
  have:=congrArg (fun x=>x.testBit k) h;simpa[cj,cd]using this
 ·intro h
  apply eg;intro j;rw[cj,cd];by_cases e:k=j
  ·subst e;simp[h]
  ·simp[e]
def Pe(o:Oper)(m:Nat):ab (AF o&&&m) (AF o)=o.after.toList.all fun e =>!al .any e || m.testBit e.on:=by
 have key:∀(l:List Edge) (s:Nat),
   ab (l.foldl (fun s e=>match al .any e with|true=>s ||| (1<<< e.on)|false=>s) s&&&m) (l.foldl (fun s e=>match al .any e with|true=>s ||| (1<<< e.on)|false=>s) s)=
    (ab (s&&&m) s&&l.all fun e =>!al .any e || m.testBit e.on):=by
  intro l;induction l with
  |nil=>intro s;simp
  |cons e l ih=>
   intro s;rw[cw,ih,db];cases al .any e with
   |true=>simp only[Vi,WG,ct,Bool.false_or,Bool.and_assoc]
   |false=>simp
 have:=key o.after.toList 0;simpa[AF]using this
def Ei{m:Nat}{p:Nat->Bool}:∀(l:List Nat) (i:Nat),(∀k am,l[k]?=some am->O9 am m (i+k)=p (i+k))->nZ l m i=(List.range' i l.length).filter p
 |[],_,_=>rfl
 |am :: r,i,h=>by
  have h0:O9 am m i=p i:=by simpa using h 0 am rfl
  have ih:=Ei (m:=m) (p:=p) r (i+1) fun k am' hk=>by
   have:=h (k+1) am' (by simpa using hk)
   rwa [show i+(k+1)=i+1+k by omega]at this
  have e:nZ (am :: r) m i=match O9 am m i with|true=>i :: nZ r m (i+1)|false=>nZ r m (i+1):=by rw[nZ]
  rw[eh,ei,cr,<-ih,e,h0];cases p i <;> rfl
def He{m i:Nat}{p:Nat->Bool}:∀(ls:List Bool) (X0:List Nat) (j:Nat),ls.length=X0.length->
  (∀k l a,ls[k]?=some l->X0[k]?=some a->(!(l&&(!(ab (j+k) i)&&(!(m.testBit (j+k))&&!(a.testBit i)))))=p (j+k))->uT m i ls X0 j=(List.range' j ls.length).all p
 |[],[],_,_,_=>rfl
 |[],_ :: _,_,h,_=>by simp at h
 |_ :: _,[],_,h,_=>by simp at h
 |l :: ls,a :: X0,j,hl,h=>by
  have h0:=h 0 l a rfl rfl;rw[cz]at h0;have ih:=He (m:=m) (i:=i) (p:=p) ls X0 (j+1) (by simpa using hl) fun k l' a' hk ha=>by
   have:=h (k+1) l' a' (by simpa using hk) (by simpa using ha)
   rwa [show j+(k+1)=j+1+k by omega]at this
  have e:uT m i (l :: ls) (a :: X0) j=match l&&(!(ab j i)&&(!(m.testBit j)&&!(a.testBit i)))with|true=>false|false=>uT m i ls X0 (j+1):=by rw[uT]
  rw[eh,ei,db,<-ih,<-h0,e];cases(l&&(!(ab j i)&&(!(m.testBit j)&&!(a.testBit i)))) <;> rfl
def y5:∀(r:List Oper) (ms:List Nat),(pY r ms).length=ms.length+r.length
 |[],ms=>by simp[pY]
 |o :: r,ms=>by rw[pY,y5 r];simp;omega
def Pf(l:List Oper):(jf l).length=l.length:=by unfold jf;rw[y5];simp
def Hf{ops:Array Oper}{m:Nat}{listed:Array Bool}(h:wN ops m listed):nZ (ops.toList.map AF) m 0=au .any ops listed:=by
 unfold au;rw[Ei (p:=fun i =>!listed.getD i true&&((ops[i]?).map (·.after.all fun e =>!al .any e || listed.getD e.on false)).getD false),ca,ej]
 ·rfl
 ·intro k am hk
  rw[aw];rw[List.getElem?_map,Array.getElem?_toList]at hk;cases ho:ops[k]? with
  |none=>rw[ho]at hk;cases hk
  |some o=>
   rw[ho]at hk;simp only[bp,ek]at hk;have hlt:k<ops.size:=(Array.getElem?_eq_some_iff.1 ho).1;unfold O9;rw[<-hk,Pe,h.out hlt];simp only[bp,bq];congr 1;rw[<-Array.all_toList];congr 1
   funext e
   rw[h.bits]
def Pg{cx:Cx}{ops:Array Oper}{m:Nat}{listed:Array Bool}(h:wN ops m listed)(i:Nat) :
  yl (ops.toList.map (kindOf cx)) (ops.toList.map fun o=>ab (kindOf cx o) 3) (jf ops.toList) m i=tZ cx ops.toList (jf ops.toList) listed i:=by
 unfold yl tZ;rw[List.getD_eq_getElem?_getD,List.getElem?_map];cases ho:ops.toList[i]? with
 |none=>rfl
 |some o=>
  simp only[bp,bq];have hfree:uT m i (ops.toList.map fun o=>ab (kindOf cx o) 3) (jf ops.toList) 0=(bz ops.toList.length).all fun j=>ab j i || listed.getD j true || !(kn cx ops.toList j) || ((jf ops.toList).getD j 0).testBit i:=by
   rw[He (p:=fun j=>ab j i || listed.getD j true || !(kn cx ops.toList j) || ((jf ops.toList).getD j 0).testBit i),ca,ej]
   ·rw[ca,Pf]
   ·intro k l a hk ha
    rw[aw];rw[List.getElem?_map]at hk;cases hoo:ops.toList[k]? with
    |none=>rw[hoo]at hk;cases hk
    |some o'=>
     rw[hoo]at hk;simp only[bp,ek]at hk;have hlt:k<ops.size:=by rw[Array.getElem?_toList]at hoo;exact(Array.getElem?_eq_some_iff.1 hoo).1
     have hm:(jf ops.toList).getD k 0=a:=by rw[List.getD_eq_getElem?_getD,ha];rfl
     have hl:kn cx ops.toList k=l:=by unfold kn;rw[hoo];exact hk
     rw[hm,hl,h.out hlt];cases l <;> cases ab k i <;> cases m.testBit k <;> cases a.testBit i <;> rfl
  split
  ·rfl
  ·exact hfree
  ·rfl
def Vj{cx:Cx}{ops:Array Oper}{K:St->VC}:∀(n m:Nat) (listed:Array Bool) (st:St),wN ops m listed->
  anyM cx ops (ops.toList.map AF) (ops.toList.map (kindOf cx)) (ops.toList.map fun o=>ab (kindOf cx o) 3) (jf ops.toList) n m st K=mI cx ops (jf ops.toList) n listed st K:=by
 intro n;induction n with
 |zero=>intro m listed st h;unfold anyM mI;rw[Hf h]
 |succ n ih=>
  intro m listed st h;unfold anyM mI;rw[Hf h];have hst:(fun i=>yl (ops.toList.map (kindOf cx)) (ops.toList.map fun o=>ab (kindOf cx o) 3) (jf ops.toList) m i || uS cx ops st i)=fun i=>tZ cx ops.toList (jf ops.toList) listed i || uS cx ops st i:=funext fun i=>by rw[Pg h]
  rw[hst];have hone:∀i,(match ops[i]? with
    |some o=>mU cx ops.toList st o fun st'=>anyM cx ops (ops.toList.map AF) (ops.toList.map (kindOf cx)) (ops.toList.map fun o=>ab (kindOf cx o) 3) (jf ops.toList) n (m ||| (1<<< i)) st' K
    |none=>VC.ff)=(match ops[i]? with
    |some o=>mU cx ops.toList st o fun st'=>mI cx ops (jf ops.toList) n (listed.setIfInBounds i true) st' K
    |none=>VC.ff):=by
   intro i;cases ho:ops[i]? with
   |none=>rfl
   |some o=>
    have hlt:i<ops.size:=(Array.getElem?_eq_some_iff.1 ho).1;simp only;congr 1
    funext st'
    exact ih _ _ st' (h.set hlt)
  split
  ·rfl
  ·split
   ·rename_i i hf
    exact hone i
   ·congr 1
    funext i
    exact hone i
def Ll{cx:Cx}{ops:Array Oper}{st:St}{K:St->VC}:WE cx ops st K=mI cx ops (jf ops.toList) ops.size (en ops.size false) st K:=
 Vj _ _ _ _ ⟨by simp,fun k=>by simp[Array.getElem?_replicate];split <;> rfl⟩
def po(r:Nat->Nat):C->C
 |.app t xs n =>.app t xs (r n)
 |.aV n =>.aV (r n)
 |.o8 n t lo len =>.o8 (r n) t lo len
 |.oI n =>.oI (r n)
 |.eW n =>.eW (r n)
 |.xd n p =>.xd (r n) p
 |.ref n o =>.ref (r n) o
 |.rR n =>.rR (r n)
 |.lQ n t i o =>.lQ (r n) t i o
 |.fn f caps =>.fn f (caps.map r)
 |c=>c
def uV(r:Nat->Nat):List C->List C
 |[]=>[]
 |c :: cs=>po r c :: uV r cs
def ua(r:Nat->Nat):cO->cO
 |.one c =>.one (po r c)
 |.agg cs =>.agg (uV r cs)
def ub(r:Nat->Nat):List cO->List cO
 |[]=>[]
 |c :: cs=>ua r c :: ub r cs
def ym(r:Nat->Nat):SV->SV
 |.s x =>.s (ua r x)
 |.mP xs =>.mP (ub r xs)
def jS(r:Nat->Nat):OC->OC
 |.cells T cs =>.cells T (uV r cs)
 |.iter cs seen cl =>.iter (uV r cs) seen cl
 |oc=>oc
def uc(r:Nat->Nat):List (Nat×SV)->List (Nat×SV)
 |[]=>[]
 |(t,v) :: l=>(t,ym r v) :: uc r l
def pZ(r:Nat->Nat):List (Nat×OC)->List (Nat×OC)
 |[]=>[]
 |(n,oc) :: l=>(r n,jS r oc) :: pZ r l
def kM(r:Nat->Nat)(st:St):St:={env:=uc r st.env,aF:=pZ r st.aF,next:=st.next}
structure mE (base next:Nat) (r q:Nat->Nat):Prop where
 low:∀n,n<base->r n=n
 lt:∀n,n<next->r n<next
 back:∀n,n<next->q (r n)=n
 XZ:∀n,n<next->q n<next
 ME:∀n,n<next->r (q n)=n
section
variable{X:Ext}{cx:Cx}{base next:Nat}{r q:Nat->Nat}
def mE.SF(h:mE base next r q)(hb:base<=next){n:Nat}(hn:n<base):q n=n:=by
 have:=h.back n (by omega);rw[h.low n hn]at this;exact this
def y7(l:List (Nat×SV))(t:Nat):look (uc r l) t=(look l t).map (ym r):=by
 induction l with
 |nil=>rfl
 |cons p l ih=>
  obtain⟨m,v⟩:=p;simp only[uc,cF];split
  ·rfl
  ·exact ih
def Hg(h:mE base next r q):∀{l:List (Nat×OC)},(∀p∈l,p.1<next)->∀m,m<next->look (pZ r l) m=(look l (q m)).map (jS r):=by
 intro l;induction l with
 |nil=>intro _ m _;rfl
 |cons p l ih=>
  obtain⟨n,oc⟩:=p;intro hk m hm;have hn:n<next:=hk (n,oc) (by simp)
  simp only[pZ,cF];by_cases e:r n=m
  ·rw[if_pos e,if_pos (by rw[<-e,h.back n hn])];rfl
  ·rw[if_neg e,if_neg (fun e2=>e (by rw[e2,h.ME m hm]))]
   exact ih (fun p hp=>hk p (by simp[hp])) m hm
def AG(h:mE base next r q):∀{l:List (Nat×OC)},(∀p∈l,p.1<next)->∀m,¬m<next->look (pZ r l) m=none:=by
 intro l;induction l with
 |nil=>intro _ m _;rfl
 |cons p l ih=>
  obtain⟨n,oc⟩:=p;intro hk m hm;simp only[pZ,cF];rw[if_neg (fun e=>hm (by rw[<-e];exact h.lt n (hk (n,oc) (by simp))))];exact ih (fun p hp=>hk p (by simp[hp])) m hm
def AH{α:Type}{l:List (Nat×α)}{p:Nat×α}(hp:p∈l):∃x,look l p.1=some x:=by
 induction l with
 |nil=>cases hp
 |cons p' l ih=>
  obtain⟨m,y⟩:=p';rw[cF];by_cases e:m=p.1
  ·exact⟨y,by rw[if_pos e]⟩
  ·rw[if_neg e]
   rcases ah.1 hp with rfl|hp
   ·exact absurd rfl e
   ·exact ih hp
def Hh(oc:OC):(jS r oc).lo=oc.lo:=by cases oc <;> rfl
section
variable{O:aH}{st:St}{loc:Nat->Loc}{w:World}
def pq(h:mE base st.next r q)(g:Good cx.eT X (aA O st loc w)){m:Nat}{oc':OC}:(aA O (kM r st) (fun m=>loc (q m)) w).ob m=some oc'↔m<st.next/\∃oc,look st.aF (q m)=some oc/\oc'=jS r oc:=by
 have hk:∀p∈st.aF,p.1<st.next:=fun p hp=>by
  obtain⟨x,hx⟩:=AH hp;exact(g.obj p.1 x hx).1
 show look (pZ r st.aF) m=some oc'↔_;by_cases hm:m<st.next
 ·rw[Hg h hk m hm]
  cases look st.aF (q m)with
  |none=>simp
  |some oc=>simp[hm,eq_comm]
 ·rw[AG h hk m hm];simp[hm]
def MF(h:mE base st.next r q)(g:Good cx.eT X (aA O st loc w)):(aA O (kM r st) (fun m=>loc (q m)) w).A=(aA O st loc w).A:=by
 funext b off
 apply propext;constructor
 ·rintro(k|⟨m,oc',k1,k2,k3⟩)
  ·exact .inl k
  ·obtain⟨hm,oc,h1,rfl⟩:=(pq h g).1 k1
   exact .inr ⟨q m,oc,h1,k2,by rwa [Hh]at k3⟩
 ·rintro(k|⟨n,oc,k1,k2,k3⟩)
  ·exact .inl k
  ·have hn:=(g.obj n oc k1).1
   refine .inr ⟨r n,jS r oc,(pq h g).2 ⟨h.lt n hn,oc,by rw[h.back n hn];exact k1,rfl⟩,?_,by rw[Hh];exact k3⟩;show b∈(loc (q (r n))).bs;rw[h.back n hn];exact k2
def Hi(h:mE base st.next r q)(g:Good cx.eT X (aA O st loc w)){b:Nat}(hb:(aA O (kM r st) (fun m=>loc (q m)) w).owns b):(aA O st loc w).owns b:=by
 obtain⟨m,oc',k1,k2⟩:=hb;obtain⟨hm,oc,h1,rfl⟩:=(pq h g).1 k1;exact⟨q m,oc,h1,k2⟩
def Ph(h:mE base st.next r q)(g:Good cx.eT X (aA O st loc w)){c:C}{v:Value}(hc:CR cx.eT (aA O st loc w) c v):CR cx.eT (aA O (kM r st) (fun m=>loc (q m)) w) (po r c) v:=by
 have hA:=MF (r:=r) (q:=q) h g;have obn:∀{n:Nat} {oc:OC},n<st.next->(aA O (kM r st) (fun m=>loc (q m)) w).ob (r n)=some oc->∃oc0,look st.aF n=some oc0/\oc=jS r oc0:=by
  intro n oc hn ho;obtain⟨_,oc0,h1,h2⟩:=(pq h g).1 ho;rw[h.back n hn]at h1;exact⟨oc0,h1,h2⟩
 cases c with
 |lit b=>exact hc
 |d t x=>show VR cx.eT t x _ w v;rw[hA];exact hc
 |app t xs n=>
  obtain⟨h1,h2,h3⟩:=hc;refine⟨by rw[hA];exact h1,h.lt n h2,fun ys hy =>?_⟩;obtain⟨oc0,k1,k2⟩:=obn h2 hy;cases oc0 <;> simp[jS]at k2;obtain⟨rfl,rfl⟩:=k2;obtain⟨m1,m2⟩:=h3 _ k1;exact⟨m1,fun e=>by show v=(loc (q (r n))).v;rw[h.back n h2];exact m2 e⟩
 |jQ=>exact hc
 |ia=>exact hc
 |emp=>exact hc
 |aV n=>
  refine⟨h.lt n hc.1,fun t xs e =>?_⟩;obtain⟨oc0,k1,k2⟩:=obn hc.1 e;cases oc0 <;> simp[jS]at k2;obtain⟨rfl,rfl⟩:=k2;show v=(loc (q (r n))).v;rw[h.back n hc.1];exact hc.2 _ _ k1
 |o8 n t lo len=>
  refine⟨h.lt n hc.1,fun xs e =>?_⟩;obtain⟨oc0,k1,k2⟩:=obn hc.1 e;cases oc0 <;> simp[jS]at k2;obtain⟨rfl,k3⟩:=k2;rcases hc.2 _ k1 with h5|⟨b,c,h5,h6⟩
  ·exact .inl h5
  ·exact .inr ⟨b,c,by show(loc (q (r n))).bs=[b];rw[h.back n hc.1];exact h5,h6⟩
 |oI n=>
  refine⟨h.lt n hc.1,fun t xs e =>?_⟩;obtain⟨oc0,k1,k2⟩:=obn hc.1 e;cases oc0 <;> simp[jS]at k2;obtain⟨rfl,rfl⟩:=k2;show v=(loc (q (r n))).v;rw[h.back n hc.1];exact hc.2 _ _ k1
 |eW n=>
  refine⟨h.lt n hc.1,fun oc e hx =>?_⟩;obtain⟨oc0,k1,k2⟩:=obn hc.1 e;have hx':oc0.Wq=true:=by subst k2;cases oc0 <;> first|rfl|cases hx
  show v=(loc (q (r n))).v;rw[h.back n hc.1];exact hc.2 _ k1 hx'
 |xd n p=>
  refine⟨h.lt n hc.1,fun t x e =>?_⟩;obtain⟨oc0,k1,k2⟩:=obn hc.1 e;cases oc0 <;> simp[jS]at k2;obtain⟨rfl,rfl,k2⟩:=k2;show ON p (loc (q (r n))).v v;rw[h.back n hc.1];exact hc.2 _ _ k1
 |ref n off=>
  refine⟨h.lt n hc.1,fun T cs e =>?_⟩;obtain⟨oc0,k1,k2⟩:=obn hc.1 e;cases oc0 <;> simp[jS]at k2;show ∃b,(loc (q (r n))).v=_/\_
  rw[h.back n hc.1];exact hc.2 _ _ k1
 |rR n=>
  refine⟨h.lt n hc.1,?_⟩;rcases hc.2 with hn|hn
  ·exact .inl hn
  ·refine .inr fun T cs e =>?_
   obtain⟨oc0,k1,k2⟩:=obn hc.1 e;cases oc0 <;> simp[jS]at k2;show v=(loc (q (r n))).v;rw[h.back n hc.1];exact hn _ _ k1
 |lQ n t i off=>
  refine⟨h.lt n hc.1,fun⟨xs,e⟩ =>?_⟩;show ∃b,(loc (q (r n))).bs=_/\_
  rw[h.back n hc.1];rcases e with e|e
  ·obtain⟨oc0,k1,k2⟩:=obn hc.1 e
   cases oc0 <;> simp[jS]at k2;obtain⟨rfl,rfl⟩:=k2;exact hc.2 ⟨_,.inl k1⟩
  ·obtain⟨oc0,k1,k2⟩:=obn hc.1 e
   cases oc0 <;> simp[jS]at k2;obtain⟨rfl,rfl⟩:=k2;exact hc.2 ⟨_,.inr k1⟩
 |oJ t x=>
  obtain⟨b,o,us,rfl,h1,h2⟩:=hc;exact⟨b,o,us,rfl,by rw[hA];exact h1,by rw[hA];exact h2⟩
 |fn f caps=>
  obtain⟨rfl,h2⟩:=hc;refine⟨?_,fun m hm =>?_⟩
  ·congr 2
   rw[List.map_map];exact dc fun n hn=>by show _=(loc (q (r n))).v;rw[h.back n (h2 n hn).1];rfl
  ·obtain⟨n,hn,rfl⟩:=List.mem_map.1 hm
   refine⟨h.lt n (h2 n hn).1,fun t ys e =>?_⟩;obtain⟨oc0,k1,k2⟩:=obn (h2 n hn).1 e;cases oc0 <;> simp[jS]at k2;obtain⟨rfl,rfl⟩:=k2;exact(h2 n hn).2 _ _ k1
 |any=>trivial
def yn(h:mE base st.next r q)(g:Good cx.eT X (aA O st loc w)):∀{cs:List C} {vs:List Value},eK cx.eT (aA O st loc w) cs vs->eK cx.eT (aA O (kM r st) (fun m=>loc (q m)) w) (uV r cs) vs
 |_,_,.nil =>.nil
 |_,_,.cons h1 h2 h3 =>.cons (Ph h g h1) h2 (yn h g h3)
def Hj(h:mE base st.next r q)(g:Good cx.eT X (aA O st loc w)){x:cO}{v:Value}(hx:iz cx.eT (aA O st loc w) x v):iz cx.eT (aA O (kM r st) (fun m=>loc (q m)) w) (ua r x) v:=by
 cases x with
 |one c=>exact Ph h g hx
 |agg cs=>obtain⟨vs,rfl,hv⟩:=hx;exact⟨vs,rfl,yn h g hv⟩
def Ej(h:mE base st.next r q)(g:Good cx.eT X (aA O st loc w)):∀{cs:List cO} {vs:List Value},cQ cx.eT (aA O st loc w) cs vs->cQ cx.eT (aA O (kM r st) (fun m=>loc (q m)) w) (ub r cs) vs
 |_,_,.nil =>.nil
 |_,_,.cons h1 h3 =>.cons (Hj h g h1) (Ej h g h3)
def Vk(h:mE base st.next r q)(g:Good cx.eT X (aA O st loc w)){x:SV}{v:Value}(hx:dO cx.eT (aA O st loc w) x v):dO cx.eT (aA O (kM r st) (fun m=>loc (q m)) w) (ym r x) v:=by
 cases x with
 |s x=>exact Hj h g hx
 |mP xs=>obtain⟨vs,rfl,hv⟩:=hx;exact⟨vs,rfl,Ej h g hv⟩
def wO(h:mE base st.next r q)(g:Good cx.eT X (aA O st loc w)){t:Ty}{xs:List (D t)}{vs:Array Value}(he:kJ cx.eT (aA O st loc w) t xs vs):kJ cx.eT (aA O (kM r st) (fun m=>loc (q m)) w) t xs vs:=by
 intro i y hy;obtain⟨us,h1,h2⟩:=he i y hy;exact⟨us,by rw[MF h g];exact h1,h2⟩
def WH(h:mE base st.next r q)(g:Good cx.eT X (aA O st loc w)){l:Loc}{oc:OC}(ho:OR cx.eT X (aA O st loc w) l oc):OR cx.eT X (aA O (kM r st) (fun m=>loc (q m)) w) l (jS r oc):=by
 cases oc with
 |cells T cs=>obtain⟨b,vs,h1,h2,h3,h4⟩:=ho;exact⟨b,vs,h1,h2,h3,yn h g h4⟩
 |aV t xs=>
  rcases ho with ho|⟨b,vs,T,cap,h1,h2,h3,h4,h5,h6,h7⟩
  ·exact .inl ho
  ·exact .inr ⟨b,vs,T,cap,h1,h2,h3,h4,h5,h6,wO h g h7⟩
 |arr t xs=>obtain⟨b,vs,T,h1,h2,h3,h4,h5⟩:=ho;exact⟨b,vs,T,h1,h2,h3,h4,wO h g h5⟩
 |tok t xs=>
  rcases ho with ho|⟨b,vs,T,cap,h1,h2,h3,h4,h5,h6,h7⟩
  ·exact .inl ho
  ·exact .inr ⟨b,vs,T,cap,h1,h2,h3,h4,h5,h6,wO h g h7⟩
 |ext k t x=>exact ho
 |iter cs seen cl=>obtain⟨b,m,c,sn,h1,h2,h3,h4,h5,h6⟩:=ho;exact⟨b,m,c,sn,h1,h2,h3,yn h g h4,h5,h6⟩
def SG(h:mE base st.next r q)(g:Good cx.eT X (aA O st loc w)):Good cx.eT X (aA O (kM r st) (fun m=>loc (q m)) w):=by
 refine⟨fun n oc' ho =>?_,fun n m oc oc' b h1 h2 h3 h4 =>?_,fun n oc' b off ho hb =>?_,g.kX.sub rfl fun b hb=>Hi h g hb⟩
 ·obtain⟨hn,oc,k1,rfl⟩:=(pq h g).1 ho
  exact⟨hn,WH h g (g.obj _ _ k1).2⟩
 ·obtain⟨hn,oc1,k1,rfl⟩:=(pq h g).1 h1
  obtain⟨hm,oc2,k2,rfl⟩:=(pq h g).1 h2;have:=g.apart (q n) (q m) oc1 oc2 b k1 k2 h3 h4;rw[<-h.ME n hn,<-h.ME m hm,this]
 ·obtain⟨hn,oc,k1,rfl⟩:=(pq h g).1 ho
  exact g.out (q n) oc b off k1 hb
def SH{l l':Loc}{a b:OC}(h:aW l l' a b):aW l l' a (jS r b):=by
 cases a <;> cases b <;> first|exact h|exact h.elim
def WI(h:mE base st.next r q)(g:Good cx.eT X (aA O st loc w)){S:bI}(hS:S.next=base)(hb:base<=st.next)(t:Tr S (aA O st loc w)):Tr S (aA O (kM r st) (fun m=>loc (q m)) w) where
 O:=t.O
 next:=t.next
 os:=t.os
 output:=t.output
 size:=t.size
 own b hb':=t.own b (Hi h g hb')
 cell b o v ha hc:=by
  obtain⟨h1,h2⟩:=t.cell b o v ha hc;exact⟨h1,by rw[MF h g];exact h2⟩
 block:=t.block
 loc n hn hf:=by
  show(loc (q n)).v=_/\(_->loc (q n)=_);rw[h.SF hb (by omega)];exact t.loc n hn hf
 kind n oc' hn ho:=by
  obtain⟨_,oc1,k1,rfl⟩:=(pq h g).1 ho;rw[h.SF hb (by omega)]at k1;obtain⟨oc,k2,k3⟩:=t.kind n oc1 hn k1;refine⟨oc,k2,?_⟩;show aW (S.loc n) (loc (q n)) oc (jS r oc1);rw[h.SF hb (by omega)];exact SH k3
def Hk{S:bI}(hS:S.next=base)(hl:∀n,n<base->r n=n){c:C}{v:Value}(hc:CR cx.eT S c v):po r c=c:=by
 subst hS;cases c with
 |app t xs n=>simp only[po];rw[hl n hc.2.1]
 |aV n=>simp only[po];rw[hl n hc.1]
 |o8 n t lo len=>simp only[po];rw[hl n hc.1]
 |oI n=>simp only[po];rw[hl n hc.1]
 |eW n=>simp only[po];rw[hl n hc.1]
 |xd n p=>simp only[po];rw[hl n hc.1]
 |ref n off=>simp only[po];rw[hl n hc.1]
 |rR n=>simp only[po];rw[hl n hc.1]
 |lQ n t i off=>simp only[po];rw[hl n hc.1]
 |fn f caps=>
  simp only[po];congr 1;have:caps.map r=caps.map id:=dc fun n hn=>hl n (hc.2 n hn).1
  simpa using this
 |_=>rfl
def Ek{S:bI}(hS:S.next=base)(hl:∀n,n<base->r n=n):∀{cs:List C} {vs:List Value},eK cx.eT S cs vs->uV r cs=cs
 |_,_,.nil=>rfl
 |_,_,.cons h1 _ h3=>by simp only[uV];rw[Hk hS hl h1,Ek hS hl h3]
def BX{S:bI}(hS:S.next=base)(hl:∀n,n<base->r n=n){x:cO}{v:Value}(hc:iz cx.eT S x v):ua r x=x:=by
 cases x with
 |one c=>simp only[ua];rw[Hk hS hl hc]
 |agg cs=>obtain⟨vs,_,hv⟩:=hc;simp only[ua];rw[Ek hS hl hv]
def y8{S:bI}(hS:S.next=base)(hl:∀n,n<base->r n=n):∀{cs:List cO} {vs:List Value},cQ cx.eT S cs vs->ub r cs=cs
 |_,_,.nil=>rfl
 |_,_,.cons h1 h3=>by simp only[ub];rw[BX hS hl h1,y8 hS hl h3]
def Pj{S:bI}(hS:S.next=base)(hl:∀n,n<base->r n=n){x:SV}{v:Value}(hc:dO cx.eT S x v):ym r x=x:=by
 cases x with
 |s x=>simp only[ym];rw[BX hS hl hc]
 |mP xs=>obtain⟨vs,_,hv⟩:=hc;simp only[ym];rw[y8 hS hl hv]
end
def fZ.XD{O:aH}{K:St->VC}{W:List Nat}{st:St}{loc:Nat->Loc}{w:World}{a a':Act}{w':World}{f:St->St}(hA:fS cx (aA O st loc w) st a)
  (hf:∀st',f st'=st'\/∃r q,mE st.next st'.next r q/\f st'=kM r st')(h:fZ cx X O (fun st'=>K (f st')) W st (aA O st loc w) a' w'):fZ cx X O K W st (aA O st loc w) a' w':=by
 obtain⟨st',loc',k1,k2,k3,k4,k5⟩:=h;rcases hf st' with e|⟨r,q,ht,e⟩
 ·exact⟨st',loc',by rw[<-e];exact k1,k2,k3,k4,k5⟩
 ·refine⟨kM r st',fun m=>loc' (q m),by rw[<-e];exact k1,SG ht k2,WI ht k2 rfl k3.next k3,⟨k4.size,k4.defers,?_⟩,?_⟩
  ·intro t sv hl
   have hl:look (uc r st'.env) t=some sv:=hl;rw[y7]at hl;obtain⟨sv0,h0,rfl⟩:=eo.1 hl;exact Vk ht k2 (k4.env t sv0 h0)
  ·intro hm t htW sv hl
   have hl:look (uc r st'.env) t=some sv:=hl;rw[y7]at hl;obtain⟨sv0,h0,rfl⟩:=eo.1 hl;have h1:=k5 hm t htW sv0 h0;rw[Pj (cx:=cx) (S:=aA O st loc w) rfl ht.low (hA.env t sv0 h1)];exact h1
end
def Lm:C->List Nat
 |.app _ _ n|.aV n|.oI n|.eW n|.xd n _|.ref n _|.rR n|.lQ n _ _ _|.o8 n _ _ _=>[n]
 |.fn _ caps=>caps
 |_=>[]
def Dr:List C->List Nat
 |[]=>[]
 |c :: cs=>Lm c++Dr cs
def WJ(aF:List (Nat×OC)):C->List Nat
 |.ref n _=>n :: (match look aF n with
  |some (.cells _ cs)=>Dr cs
  |_=>[])
 |c=>Lm c
def Vl(aF:List (Nat×OC)):SV->List Nat
 |.s (.one c)=>WJ aF c
 |.s (.agg cs)=>Dr cs
 |.mP _=>[]
def Ln(st:St):List Nat->List Nat
 |[]=>[]
 |d :: ds=>(match look st.env d with
  |some sv=>Vl st.aF sv
  |none=>[])++Ln st ds
def UL(n:Nat):List Nat->Bool
 |[]=>false
 |m :: l=>match ab m n with
  |true=>true
  |false=>UL n l
def Gv(base next:Nat):List Nat->List Nat->List Nat
 |acc,[]=>acc
 |acc,n :: l=>match ao n base || !(ao n next) || UL n acc with
  |true=>Gv base next acc l
  |false=>Gv base next (acc++[n]) l
def WK(base:Nat):Nat->List Nat
 |0=>[]
 |k+1=>WK base k++[base+k]
def WL(n:Nat):List Nat->Nat->Nat
 |[],_=>n
 |m :: l,i=>match ab m n with
  |true=>i
  |false=>WL n l (i+1)
def XE:List Nat->Nat->Nat->Nat
 |[],_,d=>d
 |m :: _,0,_=>m
 |_ :: l,i+1,d=>XE l i d
def sN(base:Nat)(l:List Nat)(n:Nat):Nat:=match ao n base with
 |true=>n
 |false=>WL n l base
def uW(base:Nat)(l:List Nat)(n:Nat):Nat:=match ao n base with
 |true=>n
 |false=>XE l (n-base) n
def Gw(base:Nat)(l:List Nat):Nat->Nat->Bool
 |_,0=>true
 |next,k+1=>ao (sN base l k) next&&ab (uW base l (sN base l k)) k&&ao (uW base l k) next&&ab (sN base l (uW base l k)) k&&Gw base l next k
def canon(base:Nat)(ds:List Nat)(st:St):St:=
 match ao (base+1) st.next with
 |false=>st
 |true=>
  let l:=Gv base st.next (Gv base st.next [] (Ln st ds)) (WK base (st.next-base))
  match Gw base l st.next st.next with
  |true=>kM (sN base l) st
  |false=>st
def sO{base:Nat}{l:List Nat}{next:Nat}:∀k,Gw base l next k=true->∀n,n<k->sN base l n<next/\uW base l (sN base l n)=n/\uW base l n<next/\sN base l (uW base l n)=n:=by
 intro k;induction k with
 |zero=>intro _ n hn;omega
 |succ k ih=>
  intro h n hn;simp only[Gw,ae]at h;obtain⟨⟨⟨⟨h1,h2⟩,h3⟩,h4⟩,h5⟩:=h;rcases a7 n k with hk|hk
  ·exact ih h5 n hk
  ·obtain rfl:n=k:=by omega
   exact⟨mg h1,ag h2,mg h3,ag h4⟩
def BY(base:Nat)(ds:List Nat)(st:St):canon base ds st=st\/∃r q,mE base st.next r q/\canon base ds st=kM r st:=by
 unfold canon;split
 ·exact .inl rfl
 ·simp only
  split
  ·rename_i h
   refine .inr ⟨_,uW base _,⟨fun n hn =>?_,fun n hn=>(sO _ h n hn).1,fun n hn=>(sO _ h n hn).2.1,fun n hn=>(sO _ h n hn).2.2.1,fun n hn=>(sO _ h n hn).2.2.2⟩,rfl⟩;unfold sN;have:ao n base=true:=Nat.ble_eq_true_of_le hn;rw[this]
  ·exact .inl rfl
def VR.Ds{eT:TypeId}{t:Ty}{x:D t}{A A':aH}{w:World}{v:Value}(h:VR eT t x A w v)(hA:∀b o,¬A b o->¬A' b o):VR eT t x A' w v:=
 VR.frame h fun b o _ ha hc=>⟨hc,hA b o ha⟩
inductive Cl where
 |d (t:Ty)
 |obj (k:Nat)
 |ia
inductive Ob where
 |box (T:TypeId) (cs:List Cl)
 |row (keep:Bool) (t:Ty)
 |tok (t:Ty)
 |ext (k:Nat) (t:Ty)
@[reducible] def CD:List Cl->Type
 |[]=>Unit
 |.d t :: r=>D t×CD r
 |.obj _ :: r=>CD r
 |.ia :: r=>CD r
@[reducible] def OD:Ob->Type
 |.box _ cs=>CD cs
 |.row _ t=>List (D t)
 |.tok t=>List (D t)
 |.ext _ t=>D t
@[reducible] def PD:List Ob->Type
 |[]=>Unit
 |o :: r=>OD o×PD r
def lh:Ob->Ob->Bool
 |.box T _,.box T' _=>ab T T'
 |.ext k t,.ext k' t'=>ab k k'&&Ty.beq t t'
 |.row true t,.row true t'=>Ty.beq t t'
 |_,_=>false
def WM:(o:Ob)->OD o->Nat->C
 |.box _ _,_,n =>.ref n 0
 |.row _ _,_,n =>.aV n
 |.tok t,x,n =>.app t x n
 |.ext 0 _,_,n =>.xd n .top
 |.ext (_+1) _,_,n =>.eW n
def iy:(aN:List Ob)->PD aN->List Nat->Nat->C
 |o :: _,x,n :: _,0=>WM o x.1 n
 |_ :: r,x,_ :: ns,k+1=>iy r x.2 ns k
 |_,_,_,_ =>.any
def Hl(f:Nat->C):(cs:List Cl)->CD cs->List C
 |[],_=>[]
 |.d t :: r,x =>.d t x.1 :: Hl f r x.2
 |.obj k :: r,x=>f k :: Hl f r x
 |.ia :: r,x =>.ia :: Hl f r x
def wP(f:Nat->C):(cs:List Cl)->CD cs->List cO
 |[],_=>[]
 |.d t :: r,x =>.one (.d t x.1) :: wP f r x.2
 |.obj k :: r,x =>.one (f k) :: wP f r x
 |.ia :: r,x =>.one .ia :: wP f r x
def q7(f:Nat->C):(o:Ob)->OD o->OC
 |.box T cs,x =>.cells T (Hl f cs x)
 |.row _ t,x =>.aV t x
 |.tok t,x =>.tok t x
 |.ext k t,x =>.ext k t x
def lU(f:Nat->C):(os:List Ob)->PD os->List Nat->List (Nat×OC)
 |o :: r,x,n :: ns=>(n,q7 f o x.1) :: lU f r x.2 ns
 |_,_,_=>[]
def UM:C->Option Nat
 |.ref n 0=>some n
 |.aV n=>some n
 |.app _ _ n=>some n
 |.eW n=>some n
 |.xd n .top=>some n
 |_=>none
def Pk(X0:List (Nat×Nat))(cl:Cl)(c:C):Option (List (Nat×Nat)):=
 match cl with
 |.obj k=>match UM c with
  |some n=>match look X0 k with
   |some m=>match ab m n with
    |true=>some X0
    |false=>none
   |none=>some ((k,n) :: X0)
  |none=>none
 |_=>some X0
def Lo:List Cl->List C->List (Nat×Nat)->Option (List (Nat×Nat))
 |[],[],X0=>some X0
 |cl :: cls,c :: cs,X0=>match Pk X0 cl c with
  |some as'=>Lo cls cs as'
  |none=>none
 |_,_,_=>none
def Pl:List Cl->List cO->List (Nat×Nat)->Option (List (Nat×Nat))
 |[],[],X0=>some X0
 |cl :: cls,v :: vs,X0=>match Pk X0 cl (match v with|.one c=>c|.agg _ =>.any)with
  |some as'=>Pl cls vs as'
  |none=>none
 |_,_,_=>none
def yp(aF:List (Nat×OC)):Nat->List Ob->List (Nat×Nat)->Option (List (Nat×Nat))
 |_,[],X0=>some X0
 |k,.box _ cls :: r,X0=>match look X0 k with
  |some n=>match look aF n with
   |some (.cells _ cs)=>match Lo cls cs X0 with
    |some as'=>yp aF (k+1) r as'
    |none=>none
   |_=>none
  |none=>none
 |k,_ :: r,X0=>yp aF (k+1) r X0
def wQ(X0:List (Nat×Nat)):Nat->Nat->Option (List Nat)
 |_,0=>some []
 |k,m+1=>match look X0 k,wQ X0 (k+1) m with
  |some n,some l=>some (n :: l)
  |_,_=>none
def nodupB:List Nat->Bool
 |[]=>true
 |n :: r =>!(mC n r)&&nodupB r
def wR:List Nat->Nat->Option Nat
 |n :: _,0=>some n
 |_ :: r,k+1=>wR r k
 |[],_=>none
def uX:List Ob->Nat->Option Ob
 |o :: _,0=>some o
 |_ :: r,k+1=>uX r k
 |[],_=>none
def j0(cv:Bool)(aF:List (Nat×OC))(aN:List Ob)(ν:List Nat)(k:Nat)(c:C):Bool:=
 match uX aN k,wR ν k,c with
 |some (.box _ _),some n,.ref m 0=>ab n m
 |some (.row _ _),some n,.aV m=>ab n m&&(match look aF n with|some (.aV _ _)=>true|_=>false)
 |some (.row _ t),some n,.app t' _ m=>cv&&(ab n m&&(Ty.beq t' t&&(match look aF n with|some (.tok _ _)=>true|_=>false)))
 |some (.tok t),some n,.app t' _ m=>ab n m&&Ty.beq t' t
 |some (.ext 0 _),some n,.xd m .top=>ab n m
 |some (.ext (_+1) _),some n,.eW m=>ab n m
 |_,_,_=>false
def n7(cv:Bool)(aF:List (Nat×OC))(aN:List Ob)(ν:List Nat):(cls:List Cl)->List C->Option (CD cls)
 |[],[]=>some ()
 |.d t :: r,c :: cs=>match sC t c,n7 cv aF aN ν r cs with
  |some x,some y=>some (x,y)
  |_,_=>none
 |.obj k :: r,c :: cs=>match j0 cv aF aN ν k c with
  |true=>n7 cv aF aN ν r cs
  |false=>none
 |.ia :: r,c :: cs=>match c with
  |.ia=>n7 cv aF aN ν r cs
  |_=>none
 |_,_=>none
def lV(cv:Bool)(aF:List (Nat×OC))(aN:List Ob)(ν:List Nat):(cls:List Cl)->List cO->Option (CD cls)
 |[],[]=>some ()
 |.d t :: r,v :: vs=>match qY t v,lV cv aF aN ν r vs with
  |some x,some y=>some (x,y)
  |_,_=>none
 |.obj k :: r,v :: vs=>match v with
  |.one c=>match j0 cv aF aN ν k c with
   |true=>lV cv aF aN ν r vs
   |false=>none
  |_=>none
 |.ia :: r,v :: vs=>match v with
  |.one .ia=>lV cv aF aN ν r vs
  |_=>none
 |_,_=>none
def Pm(t t':Ty)(xs:List (D t')):Option (List (D t)):=
 match h:Ty.beq (.slice t') (.slice t)with
 |true=>some (cJ h (a:=.slice t') (b:=.slice t) xs)
 |false=>none
def WN(t t':Ty)(x:D t'):Option (D t):=
 match h:Ty.beq t' t with
 |true=>some (cJ h x)
 |false=>none
def jU(cv:Bool)(aF:List (Nat×OC))(aN:List Ob)(ν:List Nat):(o:Ob)->OC->Option (OD o)
 |.box T cls,.cells T' cs=>match ab T' T with
  |true=>n7 cv aF aN ν cls cs
  |false=>none
 |.row _ t,.aV t' xs=>Pm t t' xs
 |.row _ t,.tok t' xs=>match cv with
  |true=>Pm t t' xs
  |false=>none
 |.tok t,.tok t' xs=>Pm t t' xs
 |.ext k t,.ext k' t' x=>match ab k' k with
  |true=>WN t t' x
  |false=>none
 |_,_=>none
def eL(cv:Bool)(aF:List (Nat×OC))(aN:List Ob)(ν:List Nat):(os:List Ob)->List Nat->Option (PD os)
 |[],[]=>some ()
 |o :: r,n :: ns=>match look aF n with
  |some oc=>match jU cv aF aN ν o oc,eL cv aF aN ν r ns with
   |some x,some y=>some (x,y)
   |_,_=>none
  |none=>none
 |_,_=>none
def tx:(os:List Ob)->PD os->Nat->C->List Prop
 |.tok t :: _,x,0,.app t' xs _=>match h:Ty.beq (.slice t') (.slice t)with
  |true=>[cJ h (a:=.slice t') (b:=.slice t) xs=x.1]
  |false=>[False]
 |.row _ t :: _,x,0,.app t' xs _=>match h:Ty.beq (.slice t') (.slice t)with
  |true=>[cJ h (a:=.slice t') (b:=.slice t) xs=x.1]
  |false=>[False]
 |_ :: r,x,k+1,c=>tx r x.2 k c
 |_,_,_,_=>[]
def p3(aN:List Ob)(x:PD aN):List Cl->List C->List Prop
 |.obj k :: r,c :: cs=>tx aN x k c++p3 aN x r cs
 |_ :: r,_ :: cs=>p3 aN x r cs
 |_,_=>[]
def mh(aN:List Ob)(x:PD aN):List Cl->List cO->List Prop
 |.obj k :: r,v :: vs=>(match v with|.one c=>tx aN x k c|.agg _=>[])++mh aN x r vs
 |_ :: r,_ :: vs=>mh aN x r vs
 |_,_=>[]
def iV(aN:List Ob)(x:PD aN)(aF:List (Nat×OC)):List Ob->List Nat->List Prop
 |.box _ cls :: r,n :: ns=>(match look aF n with|some (.cells _ cs)=>p3 aN x cls cs|_=>[])++iV aN x aF r ns
 |_ :: r,_ :: ns=>iV aN x aF r ns
 |_,_=>[]
def Hm:List Prop->Prop
 |[]=>True
 |[p]=>p
 |p :: q :: r=>p/\Hm (q :: r)
def SI:List Prop->VC->VC
 |[],k=>k
 |p :: r,k =>.and p (SI r k)
def uY{n:Nat}:∀{l:List Nat},mC n l=true->n∈l
 |[],h=>by simp[mC]at h
 |m :: r,h=>by
  simp only[mC]at h;split at h
  ·rename_i e;rw[ag e];simp
  ·simp[uY h]
def eQ{α:Type}(l r:List (Nat×α))(n:Nat):look (l++r) n=match look l n with|some x=>some x|none=>look r n:=by
 induction l with
 |nil=>rfl
 |cons p l ih=>
  obtain⟨m,x⟩:=p;simp only[List.cons_append,look];cases ab m n
  ·exact ih
  ·rfl
section
variable(eT:TypeId)(X:Ext)
def wS:Value->Value
 |.tuple vs=>vs.toList.headD .nilFunc
 |v=>v
def Dt(ls:List Loc)(k:Nat)(v:Value):Prop:=∃l,ls[k]?=some l/\v=wS l.v
def tz(S:bI)(F:Nat->Value->Prop):(cls:List Cl)->CD cls->List Value->Prop
 |[],_,vs=>vs=[]
 |.d t :: r,x,v :: vs=>VR eT t x.1 S.A S.w v/\tz S F r x.2 vs
 |.obj k :: r,x,v :: vs=>F k v/\tz S F r x vs
 |.ia :: r,x,v :: vs=>v=.pointer none/\tz S F r x vs
 |_,_,_=>False
def Pn(S:bI)(F:Nat->Value->Prop):(o:Ob)->OD o->Loc->Prop
 |.box T cls,x,l=>∃b,∃vs:List Value,l.v=.pointer (some ⟨b,0,none⟩)/\l.bs=[b]/\S.w.heap[b]?=some (.cells vs.toArray T (0,0))/\tz eT S F cls x vs/\∀v∈vs,v.oneCell'=true
 |.row _ t,x,l=>OR eT X S l (.aV t x)
 |.tok t,x,l=>OR eT X S l (.tok t x)
 |.ext k t,x,l=>OR eT X S l (.ext k t x)
def MG(S:bI)(F:Nat->Value->Prop):(os:List Ob)->PD os->List Loc->Prop
 |[],_,ls=>ls=[]
 |o :: r,x,l :: ls=>Pn eT X S F o x.1 l/\MG S F r x.2 ls
 |_,_,_=>False
end
section
variable{eT:TypeId}{X:Ext}
def jo{a b:List Prop}:(∀p∈a++b,p)↔(∀p∈a,p)/\(∀p∈b,p):=by
 simp only[a8];exact⟨fun h=>⟨fun p hp=>h p (.inl hp),fun p hp=>h p (.inr hp)⟩,fun h p hp=>hp.elim (h.1 p) (h.2 p)⟩
def uZ:∀{l:List Prop},Hm l->∀p∈l,p
 |[],_=>fun p hp=>by simp at hp
 |[q],h=>fun p hp=>by simp at hp;rw[hp];exact h
 |q :: r :: l,h=>fun p hp=>by
  rcases ah.1 hp with e|hp
  ·rw[e];exact h.1
  ·exact uZ h.2 p hp
def AI{k:VC}:∀{l:List Prop},(SI l k).holds->(∀p∈l,p)/\k.holds
 |[],h=>⟨fun p hp=>by simp at hp,h⟩
 |q :: l,h=>by
  obtain⟨h1,h2⟩:=h;obtain⟨h3,h4⟩:=AI h2;exact⟨fun p hp=>by
   rcases ah.1 hp with e|hp
   ·rw[e];exact h1
   ·exact h3 p hp,h4⟩
def oN{t t':Ty}{xs:List (D t')}{ys:List (D t)}(h:Pm t t' xs=some ys):∃e:t'=t,e▸xs=ys:=by
 unfold Pm at h;split at h
 ·rename_i hb
  have:t'=t:=by have:=Ty.eq_of_beq hb;cases this;rfl
  subst this;cases h;exact⟨rfl,by rw[gy]⟩
 ·cases h
def Hn{t t':Ty}{x:D t'}{y:D t}(h:WN t t' x=some y):∃e:t'=t,e▸x=y:=by
 unfold WN at h;split at h
 ·rename_i hb
  have:=Ty.eq_of_beq hb;subst this;cases h;exact⟨rfl,by rw[jR]⟩
 ·cases h
def Lp{t t':Ty}{xs:List (D t')}{ys:List (D t)}(hb:Ty.beq t' t=true)(h:∀p∈(match h:Ty.beq (.slice t') (.slice t)with
  |true=>[cJ h (a:=.slice t') (b:=.slice t) xs=ys]
  |false=>[False]),p):∃e:t'=t,e▸xs=ys:=by
 have:=Ty.eq_of_beq hb;subst this;refine⟨rfl,?_⟩;split at h
 ·rename_i hb'
  have:=h (cJ hb' (a:=.slice t') (b:=.slice t') xs=ys) (by simp);rw[gy]at this;exact this
 ·exact(h False (by simp)).elim
def Du{cv:Bool}{aN:List Ob}{ν:List Nat}{O:aH}{st:St}{loc:Nat->Loc}{w:World}{c:C}{v:Value}(g:Good eT X (aA O st loc w))(hc:CR eT (aA O st loc w) c v) :
  ∀{os:List Ob} {ns:List Nat} {x:PD os} {k:Nat},eL cv st.aF aN ν os ns=some x->j0 cv st.aF os ns k c=true->(∀p∈tx os x k c,p)->Dt (ns.map loc) k v:=by
 intro os;induction os with
 |nil=>intro ns x k _ h;simp[j0,uX]at h
 |cons o r ih=>
  intro ns x k hg hs hp;cases ns with
  |nil=>simp[eL]at hg
  |cons n ns=>
   simp only[eL]at hg;split at hg
   case h_2=>cases hg
   rename_i oc hob;split at hg
   case h_2=>cases hg
   rename_i x0 y0 h1 h2;cases hg;cases k with
   |succ k=>
    have hs':j0 cv st.aF r ns k c=true:=by simpa[j0,uX,wR]using hs
    have hp':∀p∈tx r y0 k c,p:=by cases o <;> cases c <;> simpa[tx]using hp
    obtain⟨l,h3,h4⟩:=ih h2 hs' hp';exact⟨l,by simpa using h3,h4⟩
   |zero=>
    refine⟨loc n,by simp,?_⟩;cases o with
    |box T cls=>
     cases c <;> simp[j0,uX,wR]at hs;rename_i m off;cases off with
     |succ off=>simp at hs
     |zero=>
      have hs:n=m:=by simpa using hs
      subst hs;cases oc <;> simp only[jU,reduceCtorEq]at h1;obtain⟨b,k1,k2⟩:=hc.2 _ _ hob;have k1:(loc n).v=_:=k1;rw[k2,k1];rfl
    |row kp t=>
     cases c <;> simp[j0,uX,wR]at hs
     ·rename_i t' xs m
      obtain⟨_,hs,hb,hk⟩:=hs;subst hs;simp only[tx]at hp;obtain⟨e,he⟩:=Lp hb hp;subst e;rw[hob]at hk;cases oc <;> simp at hk;rename_i t2 ys;cases cv <;> simp only[jU,reduceCtorEq]at h1;obtain⟨e2,h3⟩:=oN h1;subst e2;simp only at h3 he;subst h3;subst he;have hv:=(hc.2.2 _ hob).2 rfl;rcases(g.obj n _ hob).2 with⟨_,⟨a,ha⟩,_⟩|⟨b,vs,T,cap,ha,_⟩ <;> (rw[hv];show(loc n).v=wS (loc n).v;rw[show(loc n).v=_ from ha];rfl)
     ·rename_i m
      obtain⟨hs,hk⟩:=hs;subst hs;rw[hob]at hk;cases oc <;> simp at hk;rw[hc.2 _ _ hob];rcases(g.obj n _ hob).2 with⟨_,⟨a,ha⟩,_⟩|⟨b,vs,T,cap,ha,_⟩ <;> rw[show(aA O st loc w).loc n=loc n from rfl,show(loc n).v=_ from ha] <;> rfl
    |tok t=>
     cases c <;> simp[j0,uX,wR]at hs;rename_i t' xs m;obtain⟨hs,hb⟩:=hs;subst hs;simp only[tx]at hp;obtain⟨e,he⟩:=Lp hb hp;subst e;cases oc <;> simp only[jU,reduceCtorEq]at h1;obtain⟨e2,h3⟩:=oN h1;subst e2;simp only at h3 he;subst h3;subst he;have hv:=(hc.2.2 _ hob).2 rfl;rcases(g.obj n _ hob).2 with⟨_,⟨a,ha⟩,_⟩|⟨b,vs,T,cap,ha,_⟩ <;> (rw[hv];show(loc n).v=wS (loc n).v;rw[show(loc n).v=_ from ha];rfl)
    |ext k t=>
     cases k with
     |zero=>
      cases c <;> simp[j0,uX,wR]at hs;rename_i m p;cases p <;> simp at hs;subst hs;cases oc <;> simp only[jU,reduceCtorEq]at h1;split at h1
      case h_2=>cases h1
      rename_i hk;have hk:=ag hk;subst hk;obtain⟨hs',hl⟩:=hc.2 _ _ hob;rw[show(loc n).v=_ from hl];rfl
     |succ k=>
      cases c <;> simp[j0,uX,wR]at hs;subst hs;cases oc <;> simp only[jU,reduceCtorEq]at h1;split at h1
      case h_2=>cases h1
      rename_i hk;have hk:=ag hk;have hgx:=(g.obj n _ hob).2;have hv:∃u,(loc n).v=u/\wS u=u:=by
       subst hk;cases k with
       |zero=>obtain⟨e,_,b,es,fE,hm⟩:=X.map.1 hgx;exact⟨_,hm.lv,rfl⟩
       |succ k=>obtain⟨a,ha⟩:=X.ptr (by omega) hgx;exact⟨_,ha,rfl⟩
      obtain⟨u,hu,hu2⟩:=hv;rw[hc.2 _ hob rfl,show(aA O st loc w).loc n=loc n from rfl,hu];exact hu2.symm
def MH{cv:Bool}{aN:List Ob}{ν:List Nat}{x:PD aN}{O:aH}{st:St}{loc:Nat->Loc}{w:World}(g:Good eT X (aA O st loc w))(hx:eL cv st.aF aN ν aN ν=some x) :
  ∀{cls:List Cl} {cs:List C} {y:CD cls} {vs:List Value},n7 cv st.aF aN ν cls cs=some y->eK eT (aA O st loc w) cs vs->(∀p∈p3 aN x cls cs,p)->
   tz eT (aA O st loc w) (Dt (ν.map loc)) cls y vs:=by
 intro cls;induction cls with
 |nil=>
  intro cs y vs h hc _;cases cs with
  |nil=>cases hc;exact rfl
  |cons c cs=>simp[n7]at h
 |cons cl r ih=>
  intro cs y vs h hc hp;cases hc with
  |nil=>cases cl <;> simp[n7]at h
  |cons h1 h2 h3=>
   rename_i c v cs vs;cases cl with
   |d t=>
    simp only[n7]at h;split at h
    ·rename_i x0 y0 k1 k2
     cases h;exact⟨pW k1 h1,ih k2 h3 (fun p hp'=>hp p (by simpa[p3]using hp'))⟩
    ·cases h
   |obj k=>
    simp only[n7]at h;split at h
    ·rename_i hs
     simp only[p3]at hp;obtain⟨p1,p2⟩:=jo.1 hp;exact⟨Du g h1 hx hs p1,ih h h3 p2⟩
    ·cases h
   |ia=>
    simp only[n7]at h;split at h
    ·exact⟨h1,ih h h3 (fun p hp'=>hp p (by simpa[p3]using hp'))⟩
    ·cases h
def El{cv:Bool}{aN:List Ob}{ν:List Nat}{x:PD aN}{O:aH}{st:St}{loc:Nat->Loc}{w:World}(g:Good eT X (aA O st loc w))(hx:eL cv st.aF aN ν aN ν=some x) :
  ∀{cls:List Cl} {cs:List cO} {y:CD cls} {vs:List Value},lV cv st.aF aN ν cls cs=some y->cQ eT (aA O st loc w) cs vs->(∀p∈mh aN x cls cs,p)->
   tz eT (aA O st loc w) (Dt (ν.map loc)) cls y vs:=by
 intro cls;induction cls with
 |nil=>
  intro cs y vs h hc _;cases cs with
  |nil=>cases hc;exact rfl
  |cons c cs=>simp[lV]at h
 |cons cl r ih=>
  intro cs y vs h hc hp;cases hc with
  |nil=>cases cl <;> simp[lV]at h
  |cons h1 h3=>
   rename_i c v cs vs;cases cl with
   |d t=>
    simp only[lV]at h;split at h
    ·rename_i x0 y0 k1 k2
     cases h;exact⟨lS k1 h1,ih k2 h3 (fun p hp'=>hp p (by simpa[mh]using hp'))⟩
    ·cases h
   |obj k=>
    simp only[lV]at h;split at h
    ·split at h
     ·rename_i hs
      simp only[mh]at hp;obtain⟨p1,p2⟩:=jo.1 hp;exact⟨Du g h1 hx hs p1,ih h h3 p2⟩
     ·cases h
    ·cases h
   |ia=>
    simp only[lV]at h;split at h
    ·exact⟨h1,ih h h3 (fun p hp'=>hp p (by simpa[mh]using hp'))⟩
    ·cases h
def rp{cv:Bool}{aN:List Ob}{ν:List Nat}{x:PD aN}{O:aH}{st:St}{loc:Nat->Loc}{w:World}(g:Good eT X (aA O st loc w))(hx:eL cv st.aF aN ν aN ν=some x) :
  ∀{os:List Ob} {ns:List Nat} {y:PD os},eL cv st.aF aN ν os ns=some y->(∀p∈iV aN x st.aF os ns,p)->
   MG eT X (aA O st loc w) (Dt (ν.map loc)) os y (ns.map loc):=by
 intro os;induction os with
 |nil=>
  intro ns y h _;cases ns with
  |nil=>exact rfl
  |cons n ns=>simp[eL]at h
 |cons o r ih=>
  intro ns y h hp;cases ns with
  |nil=>simp[eL]at h
  |cons n ns=>
   simp only[eL]at h;split at h
   case h_2=>cases h
   rename_i oc hob;split at h
   case h_2=>cases h
   rename_i x0 y0 h1 h2;cases h;have hor:=(g.obj n oc hob).2;have hrest:∀p∈iV aN x st.aF r ns,p:=by
    cases o <;> simp only[iV]at hp
    ·exact(jo.1 hp).2
    ·exact hp
    ·exact hp
    ·exact hp
   refine⟨?_,ih h2 hrest⟩;show Pn eT X _ _ o x0 (loc n);cases o with
   |box T cls=>
    cases oc <;> simp only[jU,reduceCtorEq]at h1;rename_i T' cs;split at h1
    case h_2=>cases h1
    rename_i hT;have hT:=ag hT;subst hT;obtain⟨b,vs,k1,k2,k3,k4⟩:=hor;simp only[iV,hob]at hp;exact⟨b,vs,k1,k2,k3,MH g hx h1 k4 (jo.1 hp).1,fun v hv=>eK.GX k4 v hv⟩
   |row kp t=>
    cases oc <;> simp only[jU,reduceCtorEq]at h1
    ·obtain⟨e,h3⟩:=oN h1
     subst e;simp only at h3;subst h3;exact hor
    ·split at h1
     ·obtain⟨e,h3⟩:=oN h1
      subst e;simp only at h3;subst h3;exact hor
     ·cases h1
   |tok t=>
    cases oc <;> simp only[jU,reduceCtorEq]at h1;obtain⟨e,h3⟩:=oN h1;subst e;simp only at h3;subst h3;exact hor
   |ext k t=>
    cases oc <;> simp only[jU,reduceCtorEq]at h1;split at h1
    case h_2=>cases h1
    rename_i hk;have hk:=ag hk;subst hk;obtain⟨e,h3⟩:=Hn h1;subst e;simp only at h3;subst h3;exact hor
end
def jJ:List Cl->Bool
 |[]=>true
 |.d t :: r=>t.flat&&jJ r
 |_ :: r=>jJ r
def gH:List Ob->Bool
 |[]=>true
 |.box _ cls :: r=>jJ cls&&gH r
 |.row _ t :: r=>t.flat&&gH r
 |.tok t :: r=>t.flat&&gH r
 |.ext _ _ :: r=>gH r
def sP:List Ob->Bool
 |[]=>true
 |.tok _ :: _=>false
 |_ :: r=>sP r
section
variable{eT:TypeId}{X:Ext}
def VR.to{t:Ty}{x:D t}{S S':bI}{v:Value}(hw:S'.w=S.w)(hA:t.flat=true\/∀b o,S'.A b o->S.A b o)(h:VR eT t x S.A S.w v):VR eT t x S'.A S'.w v:=by
 rcases hA with hA|hA
 ·exact VR.of_flat hA h
 ·rw[hw];exact VR.Ds h fun b o k h'=>k (hA b o h')
def Laid(eT:TypeId)(S:bI):(os:List Ob)->PD os->List Nat->List Loc->Prop
 |[],_,ns,ls=>ns=[]/\ls=[]
 |o :: r,x,n :: ns,l :: ls=>(S.loc n=l/\n<S.next/\(match o,x.1 with
  |.box _ _,_=>∃b,l.v=.pointer (some ⟨b,0,none⟩)
  |.tok t,y=>VR eT (.slice t) y S.A S.w l.v/\∀ys,S.ob n=some (.tok t ys)->ys=y
  |.row _ _,_=>∃a k c,l.v=.slice a k c
  |.ext 0 _,_=>∃v,∃hs:List Value,l.v=.tuple (v :: hs).toArray
  |.ext (_+1) _,_=>wS l.v=l.v))/\Laid eT S r x.2 ns ls
 |_,_,_,_=>False
def BZ{S:bI}:∀{os:List Ob} {x:PD os} {ns:List Nat} {ls:List Loc} {k:Nat} {v:Value},Laid eT S os x ns ls->Dt ls k v->CR eT S (iy os x ns k) v:=by
 intro os;induction os with
 |nil=>intro x ns ls k v h hr;exact trivial
 |cons o r ih=>
  intro x ns ls k v h hr
  match ns,ls,h with
  |n :: ns,l :: ls,⟨⟨h1,h2,h3⟩,h4⟩=>
   obtain⟨l0,hl,hv⟩:=hr;cases k with
   |succ k=>exact ih h4 ⟨l0,by simpa using hl,hv⟩
   |zero=>
    simp at hl;subst hl;subst hv;show CR eT S (WM o x.1 n) _;cases o with
    |box T cls=>
     obtain⟨b,hb⟩:=h3;rw[hb];exact⟨h2,fun T cs _=>⟨b,by rw[h1];exact hb,rfl⟩⟩
    |row kp t=>
     obtain⟨a,k,c,hb⟩:=h3;rw[hb];exact⟨h2,fun t xs _=>by rw[h1,hb];rfl⟩
    |tok t=>
     obtain⟨a,c,hb,_⟩:=tU h3.1;rw[show wS l.v=l.v by rw[hb];rfl];exact⟨h3.1,h2,fun ys hy=>by rw[h3.2 ys hy];exact⟨ai _,fun _=>by rw[h1]⟩⟩
    |ext k t=>
     cases k with
     |zero=>
      obtain⟨v,hs,hb⟩:=h3;rw[hb];exact⟨h2,fun t x _=>⟨hs,by rw[h1,hb];rfl⟩⟩
     |succ k=>
      rw[show wS l.v=l.v from h3];exact⟨h2,fun oc _ _=>by rw[h1]⟩
def SJ{S S':bI}{F:Nat->Value->Prop}{f:Nat->C}(hw:S'.w=S.w)(hF:∀k v,F k v->CR eT S' (f k) v):∀{cls:List Cl} {x:CD cls} {vs:List Value},
  (jJ cls=true\/∀b o,S'.A b o->S.A b o)->tz eT S F cls x vs->(∀v∈vs,v.oneCell'=true)->eK eT S' (Hl f cls x) vs:=by
 intro cls;induction cls with
 |nil=>intro x vs _ h _;rw[show vs=[]from h];exact .nil
 |cons cl r ih=>
  intro x vs hA h h1;cases vs with
  |nil=>cases cl <;> exact h.elim
  |cons v vs=>
   have hr:jJ r=true\/∀b o,S'.A b o->S.A b o:=by
    rcases hA with hA|hA
    ·left;cases cl <;> simp[jJ]at hA <;> first|exact hA.2|exact hA
    ·exact .inr hA
   cases cl with
   |d t=>
    refine .cons (VR.to hw ?_ h.1) (h1 v (by simp)) (ih hr h.2 fun u hu=>h1 u (by simp[hu]));rcases hA with hA|hA
    ·left;simp[jJ]at hA;exact hA.1
    ·exact .inr hA
   |obj k=>exact .cons (hF k v h.1) (h1 v (by simp)) (ih hr h.2 fun u hu=>h1 u (by simp[hu]))
   |ia=>exact .cons h.1 (h1 v (by simp)) (ih hr h.2 fun u hu=>h1 u (by simp[hu]))
def Ho{S S':bI}{F:Nat->Value->Prop}{f:Nat->C}(hw:S'.w=S.w)(hF:∀k v,F k v->CR eT S' (f k) v):∀{cls:List Cl} {x:CD cls} {vs:List Value},
  (jJ cls=true\/∀b o,S'.A b o->S.A b o)->tz eT S F cls x vs->cQ eT S' (wP f cls x) vs:=by
 intro cls;induction cls with
 |nil=>intro x vs _ h;rw[show vs=[]from h];exact .nil
 |cons cl r ih=>
  intro x vs hA h;cases vs with
  |nil=>cases cl <;> exact h.elim
  |cons v vs=>
   have hr:jJ r=true\/∀b o,S'.A b o->S.A b o:=by
    rcases hA with hA|hA
    ·left;cases cl <;> simp[jJ]at hA <;> first|exact hA.2|exact hA
    ·exact .inr hA
   cases cl with
   |d t=>
    refine .cons (show VR eT t x.1 S'.A S'.w v from VR.to hw ?_ h.1) (ih hr h.2);rcases hA with hA|hA
    ·left;simp[jJ]at hA;exact hA.1
    ·exact .inr hA
   |obj k=>exact .cons (hF k v h.1) (ih hr h.2)
   |ia=>exact .cons h.1 (ih hr h.2)
def kJ.to{S S':bI}{t:Ty}{xs:List (D t)}{vs:Array Value}(hw:S'.w=S.w)(hA:t.flat=true\/∀b o,S'.A b o->S.A b o)(h:kJ eT S t xs vs):kJ eT S' t xs vs:=by
 intro i y hy;obtain⟨us,h1,h2⟩:=h i y hy;refine⟨us,?_,h2⟩;rcases hA with hA|hA
 ·exact h1.of_flat hA
 ·rw[hw];exact h1.frame fun b o v k h'=>⟨h',fun h''=>k (hA b o h'')⟩
def Hp.to{S S':bI}{t:Ty}{xs:List (D t)}{l:Loc}(hw:S'.w=S.w)(hA:t.flat=true\/∀b o,S'.A b o->S.A b o)(h:OR eT X S l (.aV t xs)):OR eT X S' l (.aV t xs):=by
 rcases h with h|⟨b,vs,T,cap,h1,h2,h3,h4,h5,h6,h7⟩
 ·exact .inl h
 ·exact .inr ⟨b,vs,T,cap,h1,h2,by rw[hw];exact h3,h4,h5,h6,h7.to hw hA⟩
def r6(o:Ob):Bool:=gH [o]
def WO{S S':bI}{F:Nat->Value->Prop}{f:Nat->C}(hw:S'.w=S.w)(hF:∀k v,F k v->CR eT S' (f k) v){o:Ob}{x:OD o}{l:Loc}
  (hA:r6 o=true\/∀b o,S'.A b o->S.A b o)(h:Pn eT X S F o x l):OR eT X S' l (q7 f o x):=by
 cases o with
 |box T cls=>
  obtain⟨b,vs,h1,h2,h3,h4,h5⟩:=h;refine⟨b,vs,h1,h2,by rw[hw];exact h3,SJ hw hF ?_ h4 h5⟩;rcases hA with hA|hA
  ·left;simpa[r6,gH]using hA
  ·exact .inr hA
 |row kp t=>
  refine Hp.to hw ?_ h;rcases hA with hA|hA
  ·left;simpa[r6,gH]using hA
  ·exact .inr hA
 |tok t=>
  refine Hp.to (X:=X) (l:=l) hw ?_ h;rcases hA with hA|hA
  ·left;simpa[r6,gH]using hA
  ·exact .inr hA
 |ext k t=>show X.rel _ _ _ _ _;rw[hw];exact h
def SK{S:bI}{t:Ty}{xs:List (D t)}{l:Loc}(h:OR eT X S l (.tok t xs))(hA:∀b∈l.bs,∀off,off<xs.length*t.size->¬S.A b off):VR eT (.slice t) xs S.A S.w l.v:=by
 rcases h with⟨rfl,⟨a,ha⟩,_⟩|⟨b,vs,T,cap,h1,h2,h3,h4,h5,h6,he⟩
 ·exact VR.cI rfl ⟨_,rfl,by simp,.inl ⟨rfl,a,0,ha⟩⟩
 ·refine VR.cI rfl ⟨_,rfl,h6,.inr ⟨b,0,cap,h1,h5,fun i y hy =>?_⟩⟩
  obtain⟨us,r1,r2⟩:=he i y hy;refine⟨us,r1,fun j u hj=>⟨?_,?_⟩⟩
  ·rw[aw,cell_of_row S.w b _ vs T (0,0) h3];exact r2 j u hj
  ·rw[aw]
   refine hA b (by rw[h2];simp) _ ?_;have hi:=bG hy;have hjl:=bG hj;rw[r1.length]at hjl;have:(i+1)*t.size<=xs.length*t.size:=cu _ hi;rw[b9]at this;omega
def fN:List Nat->List Loc->(Nat->Loc)->Nat->Loc
 |n :: ns,l :: ls,d,m=>if n=m then l else fN ns ls d m
 |_,_,d,m=>d m
def oX:∀{ns:List Nat} {ls:List Loc} {d:Nat->Loc} {m:Nat},m∉ns->fN ns ls d m=d m
 |[],_,_,_,_=>by cases ‹List Loc› <;> rfl
 |n :: ns,[],_,_,_=>rfl
 |n :: ns,l :: ls,d,m,h=>by
  simp only[ah,not_or]at h;simp only[fN];rw[if_neg (fun e=>h.1 e.symm)];exact oX h.2
def AJ{n:Nat}{l:List Nat}:mC n l=true↔n∈l:=by
 refine⟨uY,fun h =>?_⟩;induction l with
 |nil=>simp at h
 |cons m r ih=>
  simp only[mC];split
  ·rfl
  ·rename_i hb
   rcases ah.1 h with h|h
   ·subst h;rw[bg]at hb;cases hb
   ·exact ih h
def n8{n:Nat}{r:List Nat}(h:nodupB (n :: r)=true):n∉r/\nodupB r=true:=by
 simp only[nodupB,ae,bc]at h;exact⟨fun hm=>by rw[AJ.2 hm]at h;exact absurd h.1 (by decide),h.2⟩
def kO:∀{ns:List Nat} {ls:List Loc} {d:Nat->Loc} {i n:Nat} {l:Loc},nodupB ns=true->ns[i]?=some n->ls[i]?=some l->fN ns ls d n=l
 |[],_,_,_,_,_,_,h,_=>by simp at h
 |n :: ns,[],_,_,_,_,_,_,h=>by simp at h
 |n :: ns,l :: ls,d,0,m,k,_,h1,h2=>by simp at h1 h2;subst h1;subst h2;simp[fN]
 |n :: ns,l :: ls,d,i+1,m,k,hn,h1,h2=>by
  obtain⟨hm,hn⟩:=n8 hn;simp at h1 h2;simp only[fN];rw[if_neg (fun e=>hm (by rw[e];exact ax h1))];exact kO hn h1 h2
def rq{cv:Bool}{aF:List (Nat×OC)}{aN:List Ob}{ν:List Nat}{f:Nat->C}{S:bI}{F:Nat->Value->Prop}{loc:Nat->Loc}:∀{os:List Ob} {x:PD os} {ns ms:List Nat} {m:Nat} {oc:OC},eL cv aF aN ν os ns=some x->MG eT X S F os x (ns.map loc)->ns.length=ms.length->
  look (lU f os x ms) m=some oc->∃(i n:Nat) (o:Ob) (y:OD o) (oc0:OC),ns[i]?=some n/\ms[i]?=some m/\os[i]?=some o/\look aF n=some oc0/\jU cv aF aN ν o oc0=some y/\oc=q7 f o y/\Pn eT X S F o y (loc n):=by
 intro os;induction os with
 |nil=>intro x ns ms m oc _ _ _ h;simp[lU,look]at h
 |cons o r ih=>
  intro x ns ms m oc hg hR hl h;cases ns with
  |nil=>simp[eL]at hg
  |cons n ns=>
   cases ms with
   |nil=>simp at hl
   |cons k ms=>
    simp only[eL]at hg;split at hg
    case h_2=>cases hg
    rename_i oc0 hob;split at hg
    case h_2=>cases hg
    rename_i x0 y0 h1 h2;cases hg;simp only[lU,cF]at h;split at h
    ·rename_i e
     cases h;exact⟨0,n,o,x0,oc0,rfl,by simp[e],rfl,hob,h1,rfl,hR.1⟩
    ·obtain⟨i,n',o',y',oc',k1,k2,k3,k4⟩:=ih h2 hR.2 (by simpa using hl) h
     exact⟨i+1,n',o',y',oc',by simpa using k1,by simpa using k2,by simpa using k3,k4⟩
def Dv{cv:Bool}{aF:List (Nat×OC)}{aN:List Ob}{ν:List Nat}{f:Nat->C}{o:Ob}{y:OD o}{oc:OC}(h:jU cv aF aN ν o oc=some y):(q7 f o y).lo=oc.lo\/cv=true:=by
 cases o <;> cases oc <;> simp only[jU,reduceCtorEq]at h
 ·exact .inl rfl
 ·exact .inl rfl
 ·split at h
  ·exact .inr rfl
  ·cases h
 ·obtain⟨e,h3⟩:=oN h
  subst e;simp only at h3;subst h3;exact .inl rfl
 ·exact .inl rfl
def lL{cv:Bool}{aF:List (Nat×OC)}{aN:List Ob}{ν:List Nat}{o:Ob}{y:OD o}{oc:OC}(h:jU cv aF aN ν o oc=some y)(f:Nat->C):(∀T cls,o=.box T cls->∃cs,oc=.cells T cs)/\
  (∀k t,o=.ext k t->∃x,oc=.ext k t x)/\(∀k t,o=.row k t->cv=false->∃xs,oc=.aV t xs)/\((∀t,o≠.tok t)->cv=false->∀t xs,oc≠.tok t xs):=by
 refine⟨fun T cls e =>?_,fun k t e =>?_,fun k t e e2 =>?_,fun h1 h2 t xs e =>?_⟩
 ·subst e
  cases oc <;> simp only[jU,reduceCtorEq]at h;split at h
  ·rename_i hT;rw[ag hT];exact⟨_,rfl⟩
  ·cases h
 ·subst e
  cases oc <;> simp only[jU,reduceCtorEq]at h;split at h
  ·rename_i hT
   obtain⟨e,_⟩:=Hn h;subst e;rw[ag hT];exact⟨_,rfl⟩
  ·cases h
 ·subst e;subst e2
  cases oc <;> simp only[jU,reduceCtorEq]at h
  ·obtain⟨e,_⟩:=oN h
   subst e;exact⟨_,rfl⟩
 ·subst e;subst h2
  cases o <;> simp only[jU,reduceCtorEq]at h;exact h1 _ rfl
def pr{cv:Bool}{aF:List (Nat×OC)}{aN:List Ob}{ν:List Nat}:∀{os:List Ob} {ns:List Nat} {x:PD os},eL cv aF aN ν os ns=some x->os.length=ns.length:=by
 intro os;induction os with
 |nil=>intro ns x h;cases ns with|nil=>rfl|cons=>simp[eL]at h
 |cons o r ih=>
  intro ns x h;cases ns with
  |nil=>simp[eL]at h
  |cons n ns=>
   simp only[eL]at h;split at h
   case h_2=>cases h
   split at h
   case h_2=>cases h
   rename_i h2;simp[ih h2]
def qG{f:Nat->C}:∀{os:List Ob} {x:PD os} {ms:List Nat} {m:Nat},os.length=ms.length->m∈ms->∃oc,look (lU f os x ms) m=some oc:=by
 intro os;induction os with
 |nil=>intro x ms m h hm;cases ms with|nil=>simp at hm|cons=>simp at h
 |cons o r ih=>
  intro x ms m h hm;cases ms with
  |nil=>simp at h
  |cons k ms=>
   simp only[lU,cF];by_cases e:k=m
   ·exact⟨_,by rw[if_pos e]⟩
   ·rw[if_neg e]
    rcases ah.1 hm with hm|hm
    ·exact(e hm.symm).elim
    ·exact ih (by simpa using h) hm
def qH:∀{l:List Nat} {i j n:Nat},nodupB l=true->l[i]?=some n->l[j]?=some n->i=j
 |[],_,_,_,_,h,_=>by simp at h
 |m :: r,0,0,_,_,_,_=>rfl
 |m :: r,0,j+1,n,hn,h1,h2=>by
  simp at h1 h2;subst h1;exact((n8 hn).1 (ax h2)).elim
 |m :: r,i+1,0,n,hn,h1,h2=>by
  simp at h1 h2;subst h2;exact((n8 hn).1 (ax h1)).elim
 |m :: r,i+1,j+1,n,hn,h1,h2=>by
  simp at h1 h2;rw[qH (n8 hn).2 h1 h2]
def wT{a:Ob}{r:List Ob}(h:gH (a :: r)=true):r6 a=true/\gH r=true:=by
 cases a <;> simp[gH,r6]at h ⊢ <;> exact h
def y9:∀{l:List Ob} {i:Nat} {o:Ob},gH l=true->l[i]?=some o->r6 o=true
 |[],_,_,_,h=>by simp at h
 |a :: r,0,o,hfl,h=>by simp at h;subst h;exact(wT hfl).1
 |a :: r,i+1,o,hfl,h=>y9 (wT hfl).2 (by simpa using h)
def Vm{S S2:bI}{F:Nat->Value->Prop}{f:Nat->C}{loc:Nat->Loc}(hNA:∀m t ys,S2.ob m=some (.tok t ys)->∀b∈(S2.loc m).bs,∀off,off<ys.length*t.size->¬S2.A b off)(hw:S2.w=S.w) :
  ∀{os:List Ob} {x:PD os} {ns ms:List Nat},(gH os=true\/∀b o,S2.A b o->S.A b o)->MG eT X S F os x (ns.map loc)->nodupB ms=true->ns.length=ms.length->(∀n∈ms,S2.ob n=look (lU f os x ms) n)->
   (∀(i n m:Nat),ns[i]?=some n->ms[i]?=some m->S2.loc m=loc n/\m<S2.next)->Laid eT S2 os x ms (ns.map loc):=by
 intro os;induction os with
 |nil=>
  intro x ns ms _ h _ hl _ _;have h:ns.map loc=[]:=h;cases ns with
  |nil=>cases ms with
   |nil=>exact⟨rfl,rfl⟩
   |cons=>simp at hl
  |cons=>simp at h
 |cons o r ih=>
  intro x ns ms hA h hnd hl hob hloc;cases ns with
  |nil=>exact h.elim
  |cons n ns=>
   cases ms with
   |nil=>simp at hl
   |cons m ms=>
    obtain⟨hm,hnd'⟩:=n8 hnd;obtain⟨h1,h2⟩:=hloc 0 n m rfl rfl;have hA':gH r=true\/∀b o,S2.A b o->S.A b o:=by
     rcases hA with hA|hA
     ·left;cases o <;> simp[gH]at hA <;> first|exact hA.2|exact hA
     ·exact .inr hA
    refine⟨⟨h1,h2,?_⟩,ih hA' h.2 hnd' (by simpa using hl) (fun k hk =>?_) (fun i a b ha hb=>hloc (i+1) a b (by simpa using ha) (by simpa using hb))⟩
    ·cases o with
     |box T cls=>obtain⟨b,vs,k1,_⟩:=h.1;exact⟨b,k1⟩
     |row kp t=>rcases h.1 with⟨_,⟨a,ha⟩,_⟩|⟨b,vs,T,cap,ha,_⟩ <;> exact⟨_,_,_,ha⟩
     |tok t=>
      have hobm:S2.ob m=some (.tok t x.1):=by rw[hob m (by simp)];simp[lU,cF,q7]
      refine⟨?_,fun ys hy=>by rw[hobm]at hy;cases hy;rfl⟩;refine SK (X:=X) (Hp.to (X:=X) (l:=loc n) hw ?_ h.1) fun b hb off ho=>hNA m t x.1 hobm b (by rw[h1];exact hb) off ho
      rcases hA with hA|hA
      ·left;simp[gH]at hA;exact hA.1
      ·exact .inr hA
     |ext k t=>
      cases k with
      |zero=>
       have hd:=X.deep.1 h.1;obtain⟨e,s,rfl,_⟩:=sF hd;obtain⟨_,_,v,hs,hv,_⟩:=hd;exact⟨v,hs,hv⟩
      |succ k=>
       show wS (loc n).v=(loc n).v;cases k with
       |zero=>obtain⟨e,_,b,es,fE,hm⟩:=X.map.1 h.1;rw[hm.lv];rfl
       |succ k=>obtain⟨a,ha⟩:=X.ptr (by omega) h.1;rw[ha];rfl
    ·rw[hob k (by simp[hk])]
     simp only[lU,cF];rw[if_neg (fun e=>hm (by rw[e];exact hk))]
def MI{cv:Bool}{aN:List Ob}{ν:List Nat}{x:PD aN}{O:aH}{st:St}{loc:Nat->Loc}{w:World}(g:Good eT X (aA O st loc w))(hx:eL cv st.aF aN ν aN ν=some x)
  (hp:∀p∈iV aN x st.aF aN ν,p)(hnd:nodupB ν=true)
  {O2:aH}{ν2:List Nat}{rest:List (Nat×OC)}{locR:Nat->Loc}{st2:St}(hnd2:nodupB ν2=true)(hlen:ν.length=ν2.length)
  (hobjs:st2.aF=lU (iy aN x ν2) aN x ν2++rest)(hlt:∀n∈ν2,n<st2.next)
  (hO2:∀n∈ν,∀b∈(loc n).bs,∀off,¬O2 b off)
  (hD:∀n∈ν,∀b∈(loc n).bs,∀m oc,look rest m=some oc->m∉ν2->b∉(locR m).bs)
  (hR:∀m oc,look rest m=some oc->m∉ν2->m<st2.next/\OR eT X (aA O2 st2 (fN ν2 (ν.map loc) locR) w) (locR m) oc)
  (hR2:∀m m' oc oc' b,look rest m=some oc->look rest m'=some oc'->m∉ν2->m'∉ν2->b∈(locR m).bs->b∈(locR m').bs->m=m')
  (hR3:∀m oc b off,look rest m=some oc->m∉ν2->b∈(locR m).bs->¬O2 b off)
  (hA:gH aN=true\/∀b o,(aA O2 st2 (fN ν2 (ν.map loc) locR) w).A b o->(aA O st loc w).A b o)
  (hGl:∀b∈X.D6,¬(aA O2 st2 (fN ν2 (ν.map loc) locR) w).owns b) :
  Good eT X (aA O2 st2 (fN ν2 (ν.map loc) locR) w)/\Laid eT (aA O2 st2 (fN ν2 (ν.map loc) locR) w) aN x ν2 (ν.map loc):=by
 have hobs:=rp (X:=X) g hx hx hp;have hol:=pr hx;generalize hf:iy aN x ν2=f at hobjs;have hob:∀m oc,(aA O2 st2 (fN ν2 (ν.map loc) locR) w).ob m=some oc->
   (∃(i n:Nat) (o:Ob) (y:OD o) (oc0:OC),ν[i]?=some n/\ν2[i]?=some m/\look st.aF n=some oc0/\jU cv st.aF aN ν o oc0=some y/\oc=q7 f o y/\Pn eT X (aA O st loc w) (Dt (ν.map loc)) o y (loc n)/\
    fN ν2 (ν.map loc) locR m=loc n/\aN[i]?=some o)\/
   (look rest m=some oc/\m∉ν2/\fN ν2 (ν.map loc) locR m=locR m):=by
  intro m oc h;simp only[aA,hobjs]at h;rw[eQ]at h;split at h
  ·rename_i oc' h'
   cases h;obtain⟨i,n,o,y,oc0,k1,k2,k3,k4,k5,k6,k7⟩:=rq hx hobs hlen h';exact .inl ⟨i,n,o,y,oc0,k1,k2,k4,k5,k6,k7,kO hnd2 k2 (by simp[k1]),k3⟩
  ·rename_i h'
   have:m∉ν2:=fun hm=>by
    obtain⟨oc1,h1⟩:=qG (f:=f) (x:=x) (by omega) hm;rw[h1]at h';cases h'
   exact .inr ⟨h,this,oX this⟩
 have hap:∀m m' oc oc' b,(aA O2 st2 (fN ν2 (ν.map loc) locR) w).ob m=some oc->(aA O2 st2 (fN ν2 (ν.map loc) locR) w).ob m'=some oc'->
   b∈(fN ν2 (ν.map loc) locR m).bs->b∈(fN ν2 (ν.map loc) locR m').bs->m=m':=by
  intro m m' oc oc' b h1 h2 h3 h4;rcases hob m oc h1 with⟨i,n,o,y,oc0,k1,k2,k4,_,_,_,k8,_⟩|⟨k1,k2,k3⟩ <;> rcases hob m' oc' h2 with⟨i',n',o',y',oc0',j1,j2,j4,_,_,_,j8,_⟩|⟨j1,j2,j3⟩
  ·rw[k8]at h3;rw[j8]at h4
   have e:=g.apart n n' oc0 oc0' b k4 j4 h3 h4;subst e;have:=qH hnd k1 j1;subst this;rw[k2]at j2;cases j2;rfl
  ·rw[k8]at h3;rw[j3]at h4
   exact(hD n (ax k1) b h3 m' oc' j1 j2 h4).elim
  ·rw[k3]at h3;rw[j8]at h4
   exact(hD n' (ax j1) b h4 m oc k1 k2 h3).elim
  ·rw[k3]at h3;rw[j3]at h4
   exact hR2 m m' oc oc' b k1 j1 k2 j2 h3 h4
 have hout:∀m oc b off,(aA O2 st2 (fN ν2 (ν.map loc) locR) w).ob m=some oc->b∈(fN ν2 (ν.map loc) locR m).bs->¬O2 b off:=by
  intro m oc b off h1 h2;rcases hob m oc h1 with⟨i,n,o,y,oc0,k1,k2,k4,_,_,_,k8,_⟩|⟨k1,k2,k3⟩
  ·rw[k8]at h2;exact hO2 n (ax k1) b h2 off
  ·rw[k3]at h2;exact hR3 m oc b off k1 k2 h2
 have hNA:∀m t ys,(aA O2 st2 (fN ν2 (ν.map loc) locR) w).ob m=some (.tok t ys)->∀b∈((aA O2 st2 (fN ν2 (ν.map loc) locR) w).loc m).bs,∀off,off<ys.length*t.size->¬(aA O2 st2 (fN ν2 (ν.map loc) locR) w).A b off:=by
  rintro m t ys h1 b hb off ho (h2|⟨m',oc',h2,h3,h4⟩)
  ·exact hout m _ b off h1 hb h2
  ·have:=hap m m' _ oc' b h1 h2 hb h3
   subst this;rw[h1]at h2;cases h2;simp only[OC.lo]at h4;omega
 have hlaid:Laid eT (aA O2 st2 (fN ν2 (ν.map loc) locR) w) aN x ν2 (ν.map loc):=by
  refine Vm (X:=X) (S:=aA O st loc w) (f:=f) hNA rfl hA hobs hnd2 hlen (fun n hn =>?_) (fun i n m h1 h2=>⟨kO hnd2 h2 (by simp[h1]),hlt m (ax h2)⟩);show look st2.aF n=_;rw[hobjs,eQ];obtain⟨oc1,h1⟩:=qG (f:=f) (x:=x) (by omega) hn;rw[h1]
 refine⟨⟨fun m oc h =>?_,fun m m' oc oc' b h1 h2 h3 h4=>hap m m' oc oc' b h1 h2 h3 h4,fun m oc b off h1 h2=>hout m oc b off h1 h2,g.kX.1,hGl⟩,hlaid⟩;rcases hob m oc h with⟨i,n,o,y,oc0,k1,k2,k4,k5,k6,k7,k8,k9⟩|⟨k1,k2,k3⟩
 ·refine⟨hlt m (ax k2),?_⟩
  show OR _ _ _ (fN ν2 (ν.map loc) locR m) oc;rw[k8,k6];refine WO (S:=aA O st loc w) (S':=aA O2 st2 (fN ν2 (ν.map loc) locR) w) rfl (fun k v hk=>by rw[<-hf];exact BZ hlaid hk) ?_ k7;rcases hA with hA|hA
  ·left
   exact y9 hA k9
  ·exact .inr hA
 ·obtain⟨h1,h2⟩:=hR m oc k1 k2
  refine⟨h1,?_⟩;show OR _ _ _ (fN ν2 (ν.map loc) locR m) oc;rw[k3];exact h2
def upto:Nat->Nat->List Nat
 |_,0=>[]
 |k,m+1=>k :: upto (k+1) m
def UN(aN:List Ob)(cls:List Cl)(vs:List cO)(aF:List (Nat×OC))(X0:List (Nat×Nat)):Option (List Nat):=
 match Pl cls vs X0 with
 |some as1=>match yp aF 0 aN as1 with
  |some as2=>wQ as2 0 aN.length
  |none=>none
 |none=>none
def AK:∀(m k i:Nat),i<m->(upto k m)[i]?=some (k+i)
 |m+1,k,0,_=>by simp[upto]
 |m+1,k,i+1,h=>by
  simp only[upto,List.getElem?_cons_succ];rw[AK m (k+1) i (by omega)];congr 1;omega
def r7:∀{m k n:Nat},n∈upto k m->k<=n/\n<k+m
 |0,k,n,h=>by simp[upto]at h
 |m+1,k,n,h=>by
  simp only[upto,ah]at h;rcases h with h|h
  ·omega
  ·have:=r7 h;omega
def u5:∀(m k:Nat),(upto k m).length=m
 |0,_=>rfl
 |m+1,k=>by simp[upto,u5 m]
def kP:∀(m k:Nat),nodupB (upto k m)=true
 |0,_=>rfl
 |m+1,k=>by
  simp only[upto,nodupB,kP m,ep,bc];rw[Bool.eq_false_iff];intro h;have:=r7 (AJ.1 h);omega
def mw{cv:Bool}{aF:List (Nat×OC)}{aN:List Ob}{ν:List Nat}:∀{os:List Ob} {ns:List Nat} {x:PD os} {n:Nat},eL cv aF aN ν os ns=some x->n∈ns->
  ∃o oc y,o∈os/\look aF n=some oc/\jU cv aF aN ν o oc=some y:=by
 intro os;induction os with
 |nil=>intro ns x n h hn;cases ns with|nil=>simp at hn|cons=>simp[eL]at h
 |cons o r ih=>
  intro ns x n h hn;cases ns with
  |nil=>simp at hn
  |cons k ns=>
   simp only[eL]at h;split at h
   case h_2=>cases h
   rename_i oc hob;split at h
   case h_2=>cases h
   rename_i x0 y0 h1 h2;rcases ah.1 hn with e|hn
   ·subst e;exact⟨o,oc,x0,by simp,hob,h1⟩
   ·obtain⟨o',oc',y',k1,k2⟩:=ih h2 hn
    exact⟨o',oc',y',by simp[k1],k2⟩
end
inductive Ex where
 |normal
 |exit (n:Nat)
 |ret
def Gx:(cls:List Cl)->CD cls
 |[]=>()
 |.d t :: r=>(bY t,Gx r)
 |.obj _ :: r=>Gx r
 |.ia :: r=>Gx r
def Xq:(o:Ob)->OD o
 |.box _ cls=>Gx cls
 |.row _ _=>[]
 |.tok _=>[]
 |.ext _ t=>bY t
def MJ:(os:List Ob)->PD os
 |[]=>()
 |o :: r=>(Xq o,MJ r)
structure ju:Type 1 where
 X:Type
 inv:X->Prop
 cB:X->Nat
 bM:X->List (Nat×SV)
 aF:X->List (Nat×OC):=fun _=>[]
 keep:List Nat
 gU:List Nat:=[]
 ib:List Nat:=[]
 aN:List Ob:=[]
 refs:List (Nat×Nat):=[]
 pd:X->PD aN:=fun _=>MJ aN
 stay:List Nat:=[]
@[reducible] def sI(x:Int):SV:=.s (.one (.d (.int .i64) x))
@[reducible] def sB(x:Bool):SV:=.s (.one (.d .bool x))
@[reducible] def sS(x:List UInt8):SV:=.s (.one (.d .str x))
@[reducible] def sD(t:Ty)(x:D t):SV:=.s (.one (.d t x))
abbrev dX:=List (Nat×(St->ju))
def u6:C->C->Prop
 |.lit b,.d .bool c=>b=c
 |.d t x,.d t' y=>match h:Ty.beq t t' with
  |true=>cJ h x=y
  |false=>False
 |.app t xs n,.app t' ys m=>match h:Ty.beq (.slice t) (.slice t'),ab n m with
  |true,true=>cJ h (a:=.slice t) (b:=.slice t') xs=ys
  |_,_=>False
 |a,b=>a=b
def n9:SV->SV->Prop
 |.s (.one a),.s (.one b)=>u6 a b
 |a,b=>a=b
def wU:List C->List C->Prop
 |[],[]=>True
 |a :: X0,b :: bs=>u6 a b/\wU X0 bs
 |_,_=>False
def mV:OC->OC->Prop
 |.cells T cs,.cells T' cs'=>match ab T T' with
  |true=>wU cs cs'
  |false=>False
 |.aV t xs,.aV t' ys=>match h:Ty.beq (.slice t) (.slice t')with
  |true=>cJ h (a:=.slice t) (b:=.slice t') xs=ys
  |false=>False
 |.arr t xs,.arr t' ys=>match h:Ty.beq (.slice t) (.slice t')with
  |true=>cJ h (a:=.slice t) (b:=.slice t') xs=ys
  |false=>False
 |.tok t xs,.tok t' ys=>match h:Ty.beq (.slice t) (.slice t')with
  |true=>cJ h (a:=.slice t) (b:=.slice t') xs=ys
  |false=>False
 |.ext k t x,.ext k' t' y=>match ab k k',h:Ty.beq t t' with
  |true,true=>cJ h x=y
  |_,_=>False
 |.iter cs seen cl,.iter cs' seen' cl'=>wU cs cs'/\seen=seen'/\cl=cl'
 |_,_=>False
def mi(st:St):List (Nat×SV)->Prop
 |[]=>True
 |(n,v) :: r=>match look st.env n with
  |some u=>n9 u v/\mi st r
  |none=>False
def mj(st:St):List (Nat×OC)->Prop
 |[]=>True
 |(n,v) :: r=>match look st.aF n with
  |some u=>mV u v/\mj st r
  |none=>False
def nD(st:St):List Nat->List (Nat×SV)
 |[]=>[]
 |t :: r=>match look st.env t with
  |some v=>(t,v) :: nD st r
  |none=>nD st r
def iH(st:St):List Nat->List (Nat×OC)
 |[]=>[]
 |t :: r=>match look st.aF t with
  |some v=>(t,v) :: iH st r
  |none=>iH st r
def bV(an:ju)(st:St)(x:an.X):St:=
 {env:=an.bM x++nD st an.keep,aF:=an.aF x++iH st an.gU,next:=st.next}
def dZ(l:List Oper):List Nat:=l.filterMap (·.dst)
def writes(anns:dX):Nat->Code->List Nat
 |_,.region _ ops _=>dZ ops.toList
 |k,.seq a b=>writes anns k a++writes anns k b
 |k,.cond _ a b=>writes anns k a++writes anns k b
 |_,.block id b=>writes anns id b
 |k,.loop b=>match look anns (k+200000)with
  |some _=>allM :: writes anns k b
  |none=>writes anns k b
 |_,_=>[]
def u7(n:Nat):List Nat->Bool
 |[]=>false
 |m :: r=>match ab m n with
  |true=>true
  |false=>u7 n r
def sQ(l:List Nat)(W:List Nat):Bool:=match l with
 |[]=>true
 |_ =>!(u7 allM W)&&l.all fun n =>!(u7 n W)
def jX(k:Nat):List Nat->Bool
 |[]=>true
 |n :: r=>ao n k&&jX k r
def qI(k:Nat):C->Bool
 |.app _ _ n|.aV n|.oI n|.eW n|.xd n _|.ref n _|.rR n|.lQ n _ _ _|.o8 n _ _ _=>ao n k
 |.fn _ caps=>jX k caps
 |_=>true
def oY(k:Nat):List C->Bool
 |[]=>true
 |c :: r=>qI k c&&oY k r
def Hq(k:Nat):cO->Bool
 |.one c=>qI k c
 |.agg cs=>oY k cs
def jM(k:Nat):List (Nat×SV)->Bool
 |[]=>true
 |(_,.s v) :: r=>Hq k v&&jM k r
 |(_,.mP _) :: _=>false
def Lq(k:Nat):OC->Bool
 |.cells _ cs=>oY k cs
 |.iter cs _ _=>oY k cs
 |_=>true
def jz(k:Nat):List (Nat×OC)->Bool
 |[]=>true
 |(n,oc) :: r=>ao n k&&Lq k oc&&jz k r
def mW(env:List (Nat×SV)):List Nat->Bool
 |[]=>true
 |t :: r=>match look env t with
  |some _=>mW env r
  |none=>false
def mX(W:List Nat):List (Nat×SV)->Bool
 |[]=>true
 |(n,_) :: r=>u7 n W&&mX W r
def B0(env:List (Nat×SV)):List Nat->List Nat
 |[]=>[]
 |t :: r=>match look env t with
  |some (.s _)=>t :: B0 env r
  |_=>B0 env r
def qJ(ib:List Nat):List (Nat×OC)->List Nat
 |[]=>[]
 |(n,_) :: r=>match u7 n ib with
  |true=>qJ ib r
  |false=>n :: qJ ib r
def yq(st:St)(an:ju):ju:=
 {an with keep:=B0 st.env an.keep,gU:=match an.gU with
  |[]=>qJ an.ib st.aF
  |l=>l}
def cY(ty:Ty)(st:St)(t:Nat):D ty:=
 match look st.env t with
 |some (.s c)=>match qY ty c with
  |some x=>x
  |none=>bY ty
 |_=>bY ty
def bJ(st:St)(t:Nat):Nat:=
 match look st.env t with
 |some (.s (.one (.aV n)))=>n
 |some (.s (.one (.oI n)))=>n
 |some (.s (.one (.eW n)))=>n
 |some (.s (.one (.xd n _)))=>n
 |some (.s (.one (.ref n _)))=>n
 |some (.s (.one (.app _ _ n)))=>n
 |_=>0
def mJ(st:St)(n k:Nat):Nat:=
 match look st.aF n with
 |some (.cells _ cs)=>match cs[k]? with
  |some (.aV m)=>m
  |some (.ref m _)=>m
  |some (.app _ _ m)=>m
  |some (.eW m)=>m
  |some (.xd m _)=>m
  |_=>0
 |_=>0
def Gy(ty:Ty)(st:St)(n k:Nat):D ty:=
 match look st.aF n with
 |some (.cells _ cs)=>match cs[k]? with
  |some c=>match sC ty c with
   |some x=>x
   |none=>bY ty
  |none=>bY ty
 |_=>bY ty
def Vn(_:Nat)(_:St):Prop:=False
def ly(an:ju)(st st':St):VC:=
 match mW st'.env an.keep with
 |true =>.leaf (∃x',an.inv x'/\mi st' (an.bM x')/\mj st' (an.aF x'++iH st an.gU))
 |false =>.ff
def UO(st:St):List (Nat×Nat)->Option (List (Nat×Nat))
 |[]=>some []
 |(t,k) :: r=>match look st.env t,UO st r with
  |some (.s (.one c)),some X0=>match UM c with
   |some n=>match look X0 k with
    |some _=>some X0
    |none=>some ((k,n) :: X0)
   |none=>none
  |_,_=>none
def ud(st:St)(an:ju):Option (List Nat):=
 match UO st an.refs with
 |some as1=>match yp st.aF 0 an.aN as1 with
  |some as2=>wQ as2 0 an.aN.length
  |none=>none
 |none=>none
def ue(st:St)(an:ju)(ν:List Nat):List (Nat×Nat)->Bool
 |[]=>true
 |(t,k) :: r=>(match look st.env t with
  |some (.s (.one c))=>j0 false st.aF an.aN ν k c
  |_=>false)&&ue st an ν r
def yr(st:St)(an:ju)(y:PD an.aN):List (Nat×Nat)->List Prop
 |[]=>[]
 |(t,k) :: r=>(match look st.env t with
  |some (.s (.one c))=>tx an.aN y k c
  |_=>[])++yr st an y r
def wV(an:ju)(y:PD an.aN)(us:List Nat):List (Nat×Nat)->List (Nat×SV)
 |[]=>[]
 |(t,k) :: r=>(t,.s (.one (iy an.aN y us k))) :: wV an y us r
def yt(an:ju)(st:St)(x:an.X):List (Nat×SV):=an.bM x++nD st an.keep
def pw(an:ju)(st:St)(x:an.X):List (Nat×OC):=an.aF x++iH st an.gU
def WQ(s:List Nat):Nat->Nat->List Nat->List Nat
 |_,_,[]=>[]
 |k,b,n :: r=>(match mC k s with|true=>n|false=>b) :: WQ s (k+1) (b+1) r
def p4(an:ju)(st:St):List Nat:=
 match an.stay with
 |[]=>upto st.next an.aN.length
 |s=>match ud st an with
  |some ν=>WQ s 0 st.next ν
  |none=>[]
def Hr(an:ju)(st:St):Bool:=
 match an.stay with
 |[]=>true
 |_=>nodupB (p4 an st)&&(ab (p4 an st).length an.aN.length&&(p4 an st).all fun n=>ao n (st.next+an.aN.length))
def u9(b:Nat):List Ob->List Nat->List Nat->Bool
 |o :: os,u :: us,n :: ns=>(Nat.ble b u || (ab u n&&lh o o))&&u9 b os us ns
 |_,[],_=>true
 |_,_,_=>false
def wW(an:ju)(st:St)(ν:List Nat):Bool:=
 match an.stay with
 |[]=>true
 |_=>u9 st.next an.aN (p4 an st) ν
def fD(an:ju)(st:St)(us:List Nat)(x:an.X):St:=
 {env:=wV an (an.pd x) us an.refs++yt an st x,aF:=lU (iy an.aN (an.pd x) us) an.aN (an.pd x) us++pw an st x,next:=st.next+an.aN.length}
def jK(an:ju)(st:St)(x:an.X):St:=fD an st (p4 an st) x
def oZ(ν:List Nat):List (Nat×OC)->Bool
 |[]=>true
 |(n,_) :: r =>!(mC n ν)&&oZ ν r
def qK(keep:List Nat):List (Nat×Nat)->Bool
 |[]=>true
 |(t,_) :: r =>!(u7 t keep)&&qK keep r
def px(an:ju)(st:St)(W:List Nat)(x:an.X):Bool:=jM st.next (yt an st x)&&(jz st.next (pw an st x)&&(mX W (an.bM x)&&qK an.keep an.refs))
def Hs(st:St)(an:ju):ju:=
 {an with keep:=(B0 st.env an.keep).filter (fun t=>qK [t] an.refs),gU:=match an.gU with
  |[]=>qJ (an.ib++(match ud st an with|some l=>l|none=>[])) st.aF
  |l=>l}
def B1(an:ju)(st st':St)(more:an.X->Prop):VC:=
 match ud st' an with
 |some ν=>match nodupB ν&&(ue st' an ν an.refs&&wW an st ν),eL false st'.aF an.aN ν an.aN ν with
  |true,some y =>.leaf (Hm (yr st' an y an.refs++iV an.aN y st'.aF an.aN ν++[∃x',an.inv x'/\more x'/\mi st' (an.bM x')/\mj st' (an.aF x'++iH st an.gU)/\(oZ ν (pw an st x')=true/\y=an.pd x')]))
  |_,_ =>.ff
 |none =>.ff
def yu(cx:Cx)(ops:Array Oper)(draw:Bool)(st:St)(K:St->VC):VC:=
 match draw with
 |false=>Gt cx ops.toList ops.toList st K
 |true=>match uU ops with
  |true=>WE cx ops st fun st'=>K (canon st.next (dZ ops.toList) st')
  |false =>.ff
def mY:Code->Nat->Nat
 |.region id _ _,_=>id
 |.seq a b,d=>mY a (mY b d)
 |.cond _ a b,d=>mY a (mY b d)
 |.block _ b,d=>mY b d
 |.loop b,d=>mY b d
 |_,d=>d
def vc(cx:Cx)(anns:dX):Code->Nat->St->(Ex->St->VC)->VC
 |.skip,_,st,K=>K .normal st
 |.region id ops draw,_,st,K=>match(look anns (id+300000)).map (fun f=>yq st (f st))with
  |none=>yu cx ops draw st (K .normal)
  |some an=>match sQ an.keep (dZ ops.toList)with
   |true =>.both (yu cx ops draw st (ly an st))
    (.all an.X fun x =>.imp (an.inv x) (match jM st.next (bV an st x).env&&(jz st.next (bV an st x).aF&&mX (dZ ops.toList) (an.bM x))with
     |true=>K .normal (bV an st x)
     |false =>.ff))
   |false =>.ff
 |.seq a b,cur,st,K=>vc cx anns a cur st fun e st'=>match e with
  |.normal=>vc cx anns b cur st' K
  |e=>K e st'
 |.cond c a b,cur,st,K=>match(look anns (mY a (mY b 0)+400000)).map (fun f=>yq st (f st))with
  |none=>match eE st.env c with
   |.lit true=>vc cx anns a cur st K
   |.lit false=>vc cx anns b cur st K
   |.d .bool g =>.ite g (vc cx anns a cur st K) (vc cx anns b cur st K)
   |_ =>.ff
  |some an=>match sQ an.keep (writes anns cur (.cond c a b))with
   |true =>.both (match eE st.env c with
    |.lit true=>vc cx anns a cur st fun e st'=>match e with
     |.normal=>ly an st st'
     |e=>K e st'
    |.lit false=>vc cx anns b cur st fun e st'=>match e with
     |.normal=>ly an st st'
     |e=>K e st'
    |.d .bool g =>.ite g (vc cx anns a cur st fun e st'=>match e with
     |.normal=>ly an st st'
     |e=>K e st') (vc cx anns b cur st fun e st'=>match e with
     |.normal=>ly an st st'
     |e=>K e st')
    |_ =>.ff)
    (.all an.X fun x =>.imp (an.inv x) (match jM st.next (bV an st x).env&&(jz st.next (bV an st x).aF&&mX (writes anns cur (.cond c a b)) (an.bM x))with
     |true=>K .normal (bV an st x)
     |false =>.ff))
   |false =>.ff
 |.block id b,_,st,K=>match(look anns (id+100000)).map (fun f=>yq st (f st))with
  |none=>vc cx anns b id st fun e st'=>match e with
   |.exit i=>match ab i id with
    |true=>K .normal st'
    |false=>K (.exit i) st'
   |e=>K e st'
  |some an=>match sQ an.keep (writes anns id b)with
   |true =>.both (vc cx anns b id st fun e st'=>match e with
    |.exit i=>match ab i id with
     |true=>ly an st st'
     |false=>K (.exit i) st'
    |.normal=>ly an st st'
    |.ret=>K .ret st')
    (.all an.X fun x =>.imp (an.inv x) (match jM st.next (bV an st x).env&&(jz st.next (bV an st x).aF&&mX (writes anns id b) (an.bM x))with
     |true=>K .normal (bV an st x)
     |false =>.ff))
   |false =>.ff
 |.loop b,cur,st,K=>match look anns (cur+200000)with
  |none=>match(look anns cur).map (fun f=>yq st (f st))with
   |some an=>match sQ an.keep (writes anns cur b)with
    |true =>.and (∃x,an.inv x/\mi st (an.bM x)/\mj st (an.aF x))
      (.all an.X fun x =>.imp (an.inv x) (match jM st.next (bV an st x).env&&(jz st.next (bV an st x).aF&&mX (writes anns cur b) (an.bM x))with
       |true=>vc cx anns b cur (bV an st x) fun e st'=>match e with
        |.normal=>match mW st'.env an.keep with
         |true =>.leaf (∃x',an.inv x'/\an.cB x'<an.cB x/\mi st' (an.bM x')/\mj st' (an.aF x'++iH st an.gU))
         |false =>.ff
        |e=>K e st'
       |false =>.ff))
    |false =>.ff
   |none =>.leaf (Vn cur st)
  |some f=>match Hs st (f st)with
   |an=>match sQ an.keep (writes anns cur b)with
    |true =>.both (B1 an st st fun _=>True)
      (.all an.X fun x =>.imp (an.inv x) (match px an st (writes anns cur b) x&&Hr an st with
       |true=>vc cx anns b cur (jK an st x) fun e st'=>match e with
        |.normal=>match mW st'.env an.keep with
         |true=>B1 an st st' fun x'=>an.cB x'<an.cB x
         |false =>.ff
        |e=>K e st'
       |false =>.ff))
    |false =>.ff
 |.exit id,_,st,K=>K (.exit id) st
 |.ret,_,st,K=>K .ret st
 |_,_,_,_ =>.ff
section
variable{X:Ext}{P:Program}{cx:Cx}
def Em{S:bI}{a b:C}{v:Value}(h:u6 a b)(hv:CR cx.eT S a v):CR cx.eT S b v:=by
 unfold u6 at h;split at h
 ·subst h;exact eS.2 hv
 ·split at h
  ·rename_i hb
   subst h;exact lR hb _ hv
  ·exact h.elim
 ·split at h
  ·rename_i t xs n t' ys m _ hb hn
   have hn:=ag hn;subst hn;have:t=t':=by have:=Ty.eq_of_beq hb;cases this;rfl
   subst this;rw[gy]at h;subst h;exact hv
  ·exact h.elim
 ·subst h;exact hv
def B2{S:bI}{a b:SV}{v:Value}(h:n9 a b)(hv:dO cx.eT S a v):dO cx.eT S b v:=by
 unfold n9 at h;split at h
 ·exact Em h hv
 ·subst h;exact hv
def B3{S:bI}:∀{X0 bs:List C} {vs:List Value},wU X0 bs->eK cx.eT S X0 vs->eK cx.eT S bs vs:=by
 intro X0;induction X0 with
 |nil=>
  intro bs vs h hv;cases bs with
  |nil=>exact hv
  |cons=>exact h.elim
 |cons a X0 ih=>
  intro bs vs h hv;cases bs with
  |nil=>exact h.elim
  |cons b bs=>
   cases hv with
   |cons h1 h2 h3=>exact .cons (Em h.1 h1) h2 (ih h.2 h3)
def B4{S:bI}{l:Loc}{a b:OC}(h:mV a b)(hv:OR cx.eT X S l a):OR cx.eT X S l b/\aW l l a b/\a.lo=b.lo:=by
 unfold mV at h;split at h
 ·split at h
  ·rename_i hT
   have:=ag hT;subst this;obtain⟨b,vs,h1,h2,h3,h4⟩:=hv;exact⟨⟨b,vs,h1,h2,h3,B3 h h4⟩,rfl,rfl⟩
  ·exact h.elim
 ·split at h
  ·rename_i t xs t' ys hb
   have:t=t':=by have:=Ty.eq_of_beq hb;cases this;rfl
   subst this;rw[gy]at h;subst h;exact⟨hv,rfl,rfl⟩
  ·exact h.elim
 ·split at h
  ·rename_i t xs t' ys hb
   have:t=t':=by have:=Ty.eq_of_beq hb;cases this;rfl
   subst this;rw[gy]at h;subst h;exact⟨hv,rfl,rfl⟩
  ·exact h.elim
 ·split at h
  ·rename_i t xs t' ys hb
   have:t=t':=by have:=Ty.eq_of_beq hb;cases this;rfl
   subst this;rw[gy]at h;subst h;exact⟨hv,⟨rfl,ai _,fun _=>rfl⟩,rfl⟩
  ·exact h.elim
 ·split at h
  ·rename_i k t x k' t' y hk hb
   have:=ag hk;subst this;have:=Ty.eq_of_beq hb;subst this;rw[jR]at h;subst h;exact⟨hv,⟨rfl,rfl⟩,rfl⟩
  ·exact h.elim
 ·obtain⟨h1,rfl,rfl⟩:=h
  obtain⟨b,m,c,sn,k1,k2,k3,k4,k5,k6⟩:=hv;exact⟨⟨b,m,c,sn,k1,k2,k3,B3 h1 k4,k5,k6⟩,aa,rfl⟩
 ·exact h.elim
def vb{n:Nat}{l:List Nat}:u7 n l=true↔n∈l:=by
 induction l with
 |nil=>simp[u7]
 |cons m r ih=>
  simp only[u7,ah];by_cases h:m=n
  ·subst h;simp[bg]
  ·rw[nX h];simp only[ih]
   constructor
   ·exact .inr
   ·rintro(h'|h')
    ·exact absurd h'.symm h
    ·exact h'
def sR{l W:List Nat}(h:sQ l W=true):∀n∈l,allM∉W/\n∉W:=by
 intro n hn;unfold sQ at h;split at h
 ·simp at hn
 ·simp only[ae,b3,bc]at h
  exact⟨fun hW=>by rw[vb.2 hW]at h;exact absurd h.1 (by decide),fun hW=>by have:=h.2 n hn;rw[vb.2 hW]at this;cases this⟩
def jA(cx:Cx)(X:Ext)(O:aH)(K:Ex->St->VC)(W:List Nat)(st:St)(S:bI):Exit->Act->World->Prop
 |.normal,a,w=>fZ cx X O (K .normal) W st S a w
 |.exit n,a,w=>fZ cx X O (K (.exit n)) W st S a w
 |.ret,a,w=>fZ cx X O (K .ret) W st S a w
 |_,_,_=>False
def jA.mono{O:aH}{K:Ex->St->VC}{W W':List Nat}{st st1:St}{S S1:bI}{e:Exit}{a:Act}{w:World}(h:jA cx X O K W st1 S1 e a w)(ht:Tr S S1)(ha:nC W' st st1)(hW:∀n∈W,n∈W'):jA cx X O K W' st S e a w:=by
 have key:∀K:St->VC,fZ cx X O K W st1 S1 a w->fZ cx X O K W' st S a w:=by
  rintro K ⟨st',loc',k1,k2,k3,k4,k5⟩;exact⟨st',loc',k1,k2,ht.trans k3,k4,ha.trans fun hm t ht=>k5 (fun h=>hm (hW _ h)) t fun h=>ht (hW t h)⟩
 cases e with
 |normal=>exact key _ h
 |exit n=>exact key _ h
 |ret=>exact key _ h
 |goto l=>exact h
 |panic c=>exact h
 |outgrown=>exact h
def iI{st:St}{l:List Nat}{n:Nat}{v:SV}(h:look (nD st l) n=some v):n∈l/\look st.env n=some v:=by
 induction l with
 |nil=>simp[nD,look]at h
 |cons t r ih=>
  simp only[nD]at h;split at h
  ·rename_i u hu
   rw[cF]at h;by_cases e:t=n
   ·rw[if_pos e]at h;cases h;subst e;exact⟨by simp,hu⟩
   ·rw[if_neg e]at h;have:=ih h;exact⟨by simp[this.1],this.2⟩
  ·have:=ih h;exact⟨by simp[this.1],this.2⟩
def Gf{st:St}{l:List Nat}{n:Nat}{v:OC}(h:look (iH st l) n=some v):look st.aF n=some v:=by
 induction l with
 |nil=>simp[iH,look]at h
 |cons t r ih=>
  simp only[iH]at h;split at h
  ·rename_i u hu
   rw[cF]at h;by_cases e:t=n
   ·rw[if_pos e]at h;cases h;subst e;exact hu
   ·rw[if_neg e]at h;exact ih h
  ·exact ih h
def od{st:St}{l:List (Nat×SV)}(h:mi st l):∀{n v},look l n=some v->∃u,look st.env n=some u/\n9 u v:=by
 induction l with
 |nil=>intro n v hl;simp[look]at hl
 |cons p r ih=>
  obtain⟨m,x⟩:=p;intro n v hl;simp only[mi]at h;split at h
  ·rename_i u hu
   rw[cF]at hl;by_cases e:m=n
   ·rw[if_pos e]at hl;cases hl;subst e;exact⟨u,hu,h.1⟩
   ·rw[if_neg e]at hl;exact ih h.2 hl
  ·exact h.elim
def oe{st:St}{l:List (Nat×OC)}(h:mj st l):∀{n v},look l n=some v->∃u,look st.aF n=some u/\mV u v:=by
 induction l with
 |nil=>intro n v hl;simp[look]at hl
 |cons p r ih=>
  obtain⟨m,x⟩:=p;intro n v hl;simp only[mj]at h;split at h
  ·rename_i u hu
   rw[cF]at hl;by_cases e:m=n
   ·rw[if_pos e]at hl;cases hl;subst e;exact⟨u,hu,h.1⟩
   ·rw[if_neg e]at hl;exact ih h.2 hl
  ·exact h.elim
def cX{a b:Nat}(h:ao a b=true):a<b:=mg h
def MK{S S':bI}(hO:∀b o v,¬S.A b o->S.w.cell? ⟨b,o,none⟩=some v->S'.w.cell? ⟨b,o,none⟩=some v/\¬S'.A b o)(hloc:S'.loc=S.loc)
  (hob:∀n oc,S'.ob n=some oc->∃oc0,S.ob n=some oc0/\aW (S.loc n) (S.loc n) oc0 oc){c:C}{v:Value}(hb:qI S'.next c=true)(hv:CR cx.eT S c v):CR cx.eT S' c v:=by
 cases c with
 |lit b=>exact hv
 |d t x=>exact VR.frame hv hO
 |app t xs n=>
  obtain⟨h1,h2,h3⟩:=hv;refine⟨VR.frame h1 hO,cX hb,fun ys hy =>?_⟩;obtain⟨oc0,k1,k2⟩:=hob n _ hy;cases oc0 <;> simp[aW]at k2;obtain⟨rfl,k3⟩:=k2;obtain⟨m1,m2⟩:=h3 _ k1;rw[hloc];exact⟨by omega,fun e=>m2 (by omega)⟩
 |jQ=>exact hv
 |ia=>exact hv
 |emp=>exact hv
 |aV n=>
  refine⟨cX hb,fun t xs e =>?_⟩;obtain⟨oc0,k1,k2⟩:=hob n _ e;cases oc0 <;> simp[aW]at k2;rw[hloc];exact hv.2 _ _ k1
 |o8 n t lo len=>
  refine⟨cX hb,fun xs e =>?_⟩;obtain⟨oc0,k1,k2⟩:=hob n _ e;cases oc0 <;> simp[aW]at k2;subst k2;rw[hloc];exact hv.2 _ k1
 |oI n=>
  refine⟨cX hb,fun t xs e =>?_⟩;obtain⟨oc0,k1,k2⟩:=hob n _ e;cases oc0 <;> simp[aW]at k2;rw[hloc];exact hv.2 _ _ k1
 |eW n=>
  refine⟨cX hb,fun oc e hx =>?_⟩;obtain⟨oc0,k1,k2⟩:=hob n _ e;rw[hloc];exact hv.2 _ k1 (by cases oc0 <;> cases oc <;> first|rfl|exact k2.elim|cases hx)
 |xd n p=>
  refine⟨cX hb,fun t x e =>?_⟩;obtain⟨oc0,k1,k2⟩:=hob n _ e;cases oc0 <;> simp[aW]at k2;obtain⟨rfl,rfl⟩:=k2;rw[hloc];exact hv.2 _ _ k1
 |ref n off=>
  refine⟨cX hb,fun T cs e =>?_⟩;obtain⟨oc0,k1,k2⟩:=hob n _ e;cases oc0 <;> simp[aW]at k2;rw[hloc];exact hv.2 _ _ k1
 |rR n=>
  refine⟨cX hb,?_⟩;rcases hv.2 with hn|hn
  ·exact .inl hn
  ·refine .inr fun T cs e =>?_
   obtain⟨oc0,k1,k2⟩:=hob n _ e;cases oc0 <;> simp[aW]at k2;rw[hloc];exact hn _ _ k1
 |lQ n t i off=>
  refine⟨cX hb,fun⟨xs,e⟩ =>?_⟩;rw[hloc];rcases e with e|e
  ·obtain⟨oc0,k1,k2⟩:=hob n _ e
   cases oc0 <;> simp[aW]at k2;subst k2;exact hv.2 ⟨_,.inl k1⟩
  ·obtain⟨oc0,k1,k2⟩:=hob n _ e
   cases oc0 <;> simp[aW]at k2;subst k2;exact hv.2 ⟨_,.inr k1⟩
 |oJ t x=>
  obtain⟨b,o,us,rfl,h1,h2⟩:=hv;exact⟨b,o,us,rfl,h1.frame hO,h2.frame hO⟩
 |fn f caps=>
  obtain⟨rfl,h2⟩:=hv;refine⟨by rw[hloc],fun n hn=>⟨?_,fun t ys e =>?_⟩⟩
  ·have:∀l:List Nat,jX S'.next l=true->n∈l->n<S'.next:=by
    intro l;induction l with
    |nil=>intro _ h;simp at h
    |cons m r ih=>
     intro h hm;simp only[jX,ae]at h;rcases ah.1 hm with rfl|hm
     ·exact cX h.1
     ·exact ih h.2 hm
   exact this caps hb hn
  ·obtain⟨oc0,k1,k2⟩:=hob n _ e
   cases oc0 <;> simp[aW]at k2;exact(h2 n hn).2 _ _ k1
 |any=>trivial
def uf{k:Nat}:∀{l:List Nat} {n:Nat},jX k l=true->n∈l->n<k
 |[],_,_,h=>by simp at h
 |m :: r,n,h,hn=>by
  simp only[jX,ae]at h;rcases ah.1 hn with e|hn
  ·rw[e];exact cX h.1
  ·exact uf h.2 hn
def r8{S S':bI}{k:Nat}(hrel:∀{c:C} {v:Value},qI k c=true->CR cx.eT S c v->CR cx.eT S' c v):∀{cs:List C} {vs:List Value},oY k cs=true->eK cx.eT S cs vs->eK cx.eT S' cs vs:=by
 intro cs;induction cs with
 |nil=>intro vs _ h;cases h;exact .nil
 |cons c cs ih=>
  intro vs hb h;simp only[oY,ae]at hb;cases h with
  |cons h1 h2 h3=>exact .cons (hrel hb.1 h1) h2 (ih hb.2 h3)
def J6{S S':bI}(hO:∀b o v,¬S.A b o->S.w.cell? ⟨b,o,none⟩=some v->S'.w.cell? ⟨b,o,none⟩=some v/\¬S'.A b o){k:Nat}(hk:k<=S'.next)(hloc:∀n,n<k->S'.loc n=S.loc n)
  (hob:∀n oc,n<k->S'.ob n=some oc->∃oc0,S.ob n=some oc0/\aW (S.loc n) (S.loc n) oc0 oc){c:C}{v:Value}(hb:qI k c=true)(hv:CR cx.eT S c v):CR cx.eT S' c v:=by
 cases c with
 |lit b=>exact hv
 |d t x=>exact VR.frame hv hO
 |app t xs n=>
  obtain⟨h1,h2,h3⟩:=hv;refine⟨VR.frame h1 hO,ay (cX hb) hk,fun ys hy =>?_⟩;obtain⟨oc0,k1,k2⟩:=hob n _ (cX hb) hy;cases oc0 <;> simp[aW]at k2;obtain⟨rfl,k3⟩:=k2;obtain⟨m1,m2⟩:=h3 _ k1;rw[hloc n (cX hb)];exact⟨by omega,fun e=>m2 (by omega)⟩
 |jQ=>exact hv
 |ia=>exact hv
 |emp=>exact hv
 |aV n=>
  refine⟨ay (cX hb) hk,fun t xs e =>?_⟩;obtain⟨oc0,k1,k2⟩:=hob n _ (cX hb) e;cases oc0 <;> simp[aW]at k2;rw[hloc n (cX hb)];exact hv.2 _ _ k1
 |o8 n t lo len=>
  refine⟨ay (cX hb) hk,fun xs e =>?_⟩;obtain⟨oc0,k1,k2⟩:=hob n _ (cX hb) e;cases oc0 <;> simp[aW]at k2;subst k2;rw[hloc n (cX hb)];exact hv.2 _ k1
 |oI n=>
  refine⟨ay (cX hb) hk,fun t xs e =>?_⟩;obtain⟨oc0,k1,k2⟩:=hob n _ (cX hb) e;cases oc0 <;> simp[aW]at k2;rw[hloc n (cX hb)];exact hv.2 _ _ k1
 |eW n=>
  refine⟨ay (cX hb) hk,fun oc e hx =>?_⟩;obtain⟨oc0,k1,k2⟩:=hob n _ (cX hb) e;rw[hloc n (cX hb)];exact hv.2 _ k1 (by cases oc0 <;> cases oc <;> first|rfl|exact k2.elim|cases hx)
 |xd n p=>
  refine⟨ay (cX hb) hk,fun t x e =>?_⟩;obtain⟨oc0,k1,k2⟩:=hob n _ (cX hb) e;cases oc0 <;> simp[aW]at k2;obtain⟨rfl,rfl⟩:=k2;rw[hloc n (cX hb)];exact hv.2 _ _ k1
 |ref n off=>
  refine⟨ay (cX hb) hk,fun T cs e =>?_⟩;obtain⟨oc0,k1,k2⟩:=hob n _ (cX hb) e;cases oc0 <;> simp[aW]at k2;rw[hloc n (cX hb)];exact hv.2 _ _ k1
 |rR n=>
  refine⟨ay (cX hb) hk,?_⟩;rcases hv.2 with hn|hn
  ·exact .inl hn
  ·refine .inr fun T cs e =>?_
   obtain⟨oc0,k1,k2⟩:=hob n _ (cX hb) e;cases oc0 <;> simp[aW]at k2;rw[hloc n (cX hb)];exact hn _ _ k1
 |lQ n t i off=>
  refine⟨ay (cX hb) hk,fun⟨xs,e⟩ =>?_⟩;rw[hloc n (cX hb)];rcases e with e|e
  ·obtain⟨oc0,k1,k2⟩:=hob n _ (cX hb) e
   cases oc0 <;> simp[aW]at k2;subst k2;exact hv.2 ⟨_,.inl k1⟩
  ·obtain⟨oc0,k1,k2⟩:=hob n _ (cX hb) e
   cases oc0 <;> simp[aW]at k2;subst k2;exact hv.2 ⟨_,.inr k1⟩
 |oJ t x=>
  obtain⟨b,o,us,rfl,h1,h2⟩:=hv;exact⟨b,o,us,rfl,h1.frame hO,h2.frame hO⟩
 |fn f caps=>
  obtain⟨rfl,h2⟩:=hv;have hlt:∀n∈caps,n<k:=fun n hn=>uf hb hn
  refine⟨by rw[show(caps.map fun n=>(S.loc n).v)=(caps.map fun n=>(S'.loc n).v)from dc fun n hn=>by rw[hloc n (hlt n hn)]],fun n hn=>⟨ay (hlt n hn) hk,fun t ys e =>?_⟩⟩;obtain⟨oc0,k1,k2⟩:=hob n _ (hlt n hn) e;cases oc0 <;> simp[aW]at k2;exact(h2 n hn).2 _ _ k1
 |any=>trivial
def aW.comp{l1 l2 l3:Loc}{a b c:OC}(h:aW l1 l2 a b)(h':aW l2 l3 b c):aW l1 l3 a c:=by
 cases a <;> cases b <;> simp[aW]at h <;> cases c <;> simp[aW]at h' ⊢
 all_goals (try(simp_all;done))
 obtain⟨rfl,a1,a2⟩:=h;obtain⟨rfl,b1,b2⟩:=h';refine⟨rfl,by omega,fun e =>?_⟩;rw[b2 (by omega),a2 (by omega)]
def tA{S S':bI}(hrel:∀{c:C} {v:Value},qI S'.next c=true->CR cx.eT S c v->CR cx.eT S' c v):∀{cs:List C} {vs:List Value},oY S'.next cs=true->eK cx.eT S cs vs->eK cx.eT S' cs vs:=by
 intro cs;induction cs with
 |nil=>intro vs _ h;cases h;exact .nil
 |cons c cs ih=>
  intro vs hb h;simp only[oY,ae]at hb;cases h with
  |cons h1 h2 h3=>exact .cons (hrel hb.1 h1) h2 (ih hb.2 h3)
def wb{k:Nat}:∀{l:List (Nat×SV)},jM k l=true->∀{n v},look l n=some v->∃v0,v=.s v0/\Hq k v0=true:=by
 intro l;induction l with
 |nil=>intro _ n v h;simp[look]at h
 |cons p r ih=>
  obtain⟨m,x⟩:=p;intro hb n v h;cases x with
  |mP vs=>simp[jM]at hb
  |s v0=>
   simp only[jM,ae]at hb;rw[cF]at h;by_cases e:m=n
   ·rw[if_pos e]at h;cases h;exact⟨v0,rfl,hb.1⟩
   ·rw[if_neg e]at h;exact ih hb.2 h
def nE{k:Nat}:∀{l:List (Nat×OC)},jz k l=true->∀{n v},look l n=some v->n<k/\Lq k v=true:=by
 intro l;induction l with
 |nil=>intro _ n v h;simp[look]at h
 |cons p r ih=>
  obtain⟨m,x⟩:=p;intro hb n v h;simp only[jz,ae]at hb;rw[cF]at h;by_cases e:m=n
  ·rw[if_pos e]at h;cases h;subst e;exact⟨cX hb.1.1,hb.1.2⟩
  ·rw[if_neg e]at h;exact ih hb.2 h
def ve{an:ju}{O:aH}{st st':St}{loc loc0:Nat->Loc}{w w0:World}{a:Act}(x:an.X)(g:Good cx.eT X (aA O st' loc w))(hA:fS cx (aA O st' loc w) st' a)(ht:Tr (aA O st loc0 w0) (aA O st' loc w))
  (he:∀n v,look (bV an st x).env n=some v->∃u,look st'.env n=some u/\n9 u v)
  (ho:∀n v,look (bV an st x).aF n=some v->∃u,look st'.aF n=some u/\mV u v)
  (hb1:jM st.next (bV an st x).env=true)(hb2:jz st.next (bV an st x).aF=true) :
  Good cx.eT X (aA O (bV an st x) loc w)/\fS cx (aA O (bV an st x) loc w) (bV an st x) a/\Tr (aA O st loc0 w0) (aA O (bV an st x) loc w):=by
 have hob:∀n oc,look (bV an st x).aF n=some oc->∃oc0,look st'.aF n=some oc0/\aW (loc n) (loc n) oc0 oc/\oc0.lo=oc.lo/\OR cx.eT X (aA O st' loc w) (loc n) oc:=by
  intro n oc h;obtain⟨u,hu,hs⟩:=ho n oc h;obtain⟨h1,h2,h3⟩:=B4 hs (g.obj n u hu).2;exact⟨u,hu,h2,h3,h1⟩
 have hAsub:∀b o,(aA O (bV an st x) loc w).A b o->(aA O st' loc w).A b o:=by
  rintro b o (h|⟨n,oc,h1,h2,h3⟩)
  ·exact .inl h
  ·obtain⟨oc0,k1,_,k3,_⟩:=hob n oc h1
   exact .inr ⟨n,oc0,k1,h2,by rw[k3];exact h3⟩
 have hcell:∀b o v,¬(aA O st' loc w).A b o->w.cell? ⟨b,o,none⟩=some v->w.cell? ⟨b,o,none⟩=some v/\¬(aA O (bV an st x) loc w).A b o:=fun b o v h1 h2=>⟨h2,fun h=>h1 (hAsub b o h)⟩
 have hrel:∀{c:C} {v:Value},qI st.next c=true->CR cx.eT (aA O st' loc w) c v->CR cx.eT (aA O (bV an st x) loc w) c v:=fun hb hv=>
  MK (S:=aA O st' loc w) (S':=aA O (bV an st x) loc w) hcell rfl (fun n oc h=>let⟨oc0,k1,k2,_⟩:=hob n oc h;⟨oc0,k1,k2⟩) hb hv
 have hor:∀n oc,look (bV an st x).aF n=some oc->OR cx.eT X (aA O (bV an st x) loc w) (loc n) oc:=by
  intro n oc h;obtain⟨_,_,_,_,k4⟩:=hob n oc h;have hb:=(nE hb2 h).2;cases oc with
  |cells T cs=>
   obtain⟨b,vs,h1,h2,h3,h4⟩:=k4;exact⟨b,vs,h1,h2,h3,tA hrel hb h4⟩
  |aV t xs=>
   rcases k4 with k4|⟨b,vs,T,cap,h1,h2,h3,h4,h5,h6,h7⟩
   ·exact .inl k4
   ·exact .inr ⟨b,vs,T,cap,h1,h2,h3,h4,h5,h6,fun i y hy=>let⟨us,r1,r2⟩:=h7 i y hy;⟨us,r1.frame hcell,r2⟩⟩
  |arr t xs=>
   obtain⟨b,vs,T,h1,h2,h3,h4,h5⟩:=k4;exact⟨b,vs,T,h1,h2,h3,h4,fun i y hy=>let⟨us,r1,r2⟩:=h5 i y hy;⟨us,r1.frame hcell,r2⟩⟩
  |tok t xs=>
   rcases k4 with k4|⟨b,vs,T,cap,h1,h2,h3,h4,h5,h6,h7⟩
   ·exact .inl k4
   ·exact .inr ⟨b,vs,T,cap,h1,h2,h3,h4,h5,h6,fun i y hy=>let⟨us,r1,r2⟩:=h7 i y hy;⟨us,r1.frame hcell,r2⟩⟩
  |ext k t x=>exact k4
  |iter cs seen cl=>obtain⟨b,m,c,sn,k1,k2,k3,k4,k5⟩:=k4;exact⟨b,m,c,sn,k1,k2,k3,tA hrel hb k4,k5⟩
 refine⟨⟨fun n oc h=>⟨(nE hb2 h).1,hor n oc h⟩,fun n m oc oc' b h1 h2 h3 h4 =>?_,fun n oc b off h1 h2 =>?_,g.kX.sub rfl fun b ⟨n,oc,h1,h2⟩=>by obtain⟨oc0,k1,_⟩:=hob n oc h1;exact⟨n,oc0,k1,h2⟩⟩,⟨hA.size,hA.defers,fun n v h =>?_⟩,?_⟩
 ·obtain⟨oc0,k1,_⟩:=hob n oc h1
  obtain⟨oc0',k1',_⟩:=hob m oc' h2;exact g.apart n m oc0 oc0' b k1 k1' h3 h4
 ·obtain⟨oc0,k1,_⟩:=hob n oc h1
  exact g.out n oc0 b off k1 h2
 ·obtain⟨u,hu,hs⟩:=he n v h
  have hv:=B2 hs (hA.env n u hu);obtain⟨v0,rfl,hb⟩:=wb hb1 h;cases v0 with
  |one c=>exact hrel hb hv
  |agg cs=>obtain⟨vs,h1,h2⟩:=hv;exact⟨vs,h1,tA hrel hb h2⟩
 ·refine{O:=ht.O,next:=ai _,os:=ht.os,output:=ht.output,size:=ht.size,own:=fun b hb =>?_,cell:=fun b o v h1 h2 =>?_,block:=ht.block,loc:=ht.loc,kind:=fun n oc hn h =>?_}
  ·obtain⟨n,oc,h1,h2⟩:=hb
   obtain⟨oc0,k1,_⟩:=hob n oc h1;exact ht.own b ⟨n,oc0,k1,h2⟩
  ·obtain⟨k1,k2⟩:=ht.cell b o v h1 h2
   exact⟨k1,fun h=>k2 (hAsub b o h)⟩
  ·obtain⟨oc0,k1,k2,_⟩:=hob n oc h
   obtain⟨oc1,m1,m2⟩:=ht.kind n oc0 hn k1;exact⟨oc1,m1,m2.comp k2⟩
def Ty.beq_refl:∀t:Ty,Ty.beq t t=true:=by
 intro t;induction t with
 |prod a b iha ihb=>simp[Ty.beq,iha,ihb]
 |slice e ih=>simp[Ty.beq,ih]
 |int k=>simp[Ty.beq]
 |_=>rfl
def B5(c:C):u6 c c:=by
 cases c with
 |d t x=>
  simp only[u6];split
  ·rfl
  ·rename_i h;rw[Ty.beq_refl]at h;cases h
 |app t xs n=>
  simp only[u6];split
  ·rfl
  ·rename_i h;exact(h (Ty.beq_refl _) (bg _)).elim
 |_=>rfl
def jY(v:SV):n9 v v:=by
 cases v with
 |s v=>
  cases v with
  |one c=>exact B5 c
  |agg cs=>rfl
 |mP vs=>rfl
def tB:∀cs:List C,wU cs cs
 |[]=>trivial
 |c :: cs=>⟨B5 c,tB cs⟩
def J7(v:OC):mV v v:=by
 cases v with
 |cells T cs=>
  simp only[mV,bg];exact tB cs
 |aV t xs=>
  simp only[mV];split
  ·rfl
  ·rename_i h;rw[Ty.beq_refl]at h;cases h
 |arr t xs=>
  simp only[mV];split
  ·rfl
  ·rename_i h;rw[Ty.beq_refl]at h;cases h
 |tok t xs=>
  simp only[mV];split
  ·rfl
  ·rename_i h;rw[Ty.beq_refl]at h;cases h
 |ext k t x=>
  simp only[mV];split
  ·rfl
  ·rename_i h;exact(h (bg _) (Ty.beq_refl _)).elim
 |iter cs seen cl=>exact⟨tB cs,rfl,rfl⟩
def qp{W:List Nat}:∀{l:List (Nat×SV)},mX W l=true->∀{n v},look l n=some v->n∈W:=by
 intro l;induction l with
 |nil=>intro _ n v h;simp[look]at h
 |cons p r ih=>
  obtain⟨m,x⟩:=p;intro hb n v h;simp only[mX,ae]at hb;rw[cF]at h;by_cases e:m=n
  ·subst e;exact vb.1 hb.1
  ·rw[if_neg e]at h;exact ih hb.2 h
def oA{env:List (Nat×SV)}:∀{l:List Nat},mW env l=true->∀{n},n∈l->∃v,look env n=some v:=by
 intro l;induction l with
 |nil=>intro _ n h;simp at h
 |cons t r ih=>
  intro hb n h;simp only[mW]at hb;split at hb
  ·rename_i u hu
   rcases ah.1 h with rfl|h
   ·exact⟨u,hu⟩
   ·exact ih hb h
  ·cases hb
def Vo{O:aH}{K:Ex->St->VC}{W:List Nat}{st:St}{S:bI}{next:Act->World->Prop}{Q:Exit->Act->World->Prop}{K':Ex->St->VC}
  (hn:∀a w,fZ cx X O (K' .normal) W st S a w->next a w)(hK:∀e,e≠.normal->K' e=K e)(hQ:∀e a w,jA cx X O K W st S e a w->e≠.normal->Q e a w){e:Exit}{a:Act}{w:World}
  (h:jA cx X O K' W st S e a w):Exit.then next Q e a w:=by
 cases e with
 |normal=>exact hn a w h
 |exit n=>exact hQ _ _ _ (by simpa[jA,hK (.exit n) (by simp)]using h) (by simp)
 |ret=>exact hQ _ _ _ (by simpa[jA,hK .ret (by simp)]using h) (by simp)
 |goto l=>exact h.elim
 |panic c=>exact h.elim
 |outgrown=>exact h.elim
structure Ht (an:ju) (st st':St) (x:an.X) (ν:List Nat):Prop where
 nodup:nodupB ν=true
 refs:ue st' an ν an.refs=true
 get:eL false st'.aF an.aN ν an.aN ν=some (an.pd x)
 XJ:∀p∈yr st' an (an.pd x) an.refs,p
 conds:∀p∈iV an.aN (an.pd x) st'.aF an.aN ν,p
 env:mi st' (an.bM x)
 aF:mj st' (pw an st x)
 out:oZ ν (pw an st x)=true
def En{an:ju}{st st':St}{more:an.X->Prop}(h:(B1 an st st' more).holds):∃x,an.inv x/\more x/\∃ν,Ht an st st' x ν/\wW an st ν=true:=by
 unfold B1 at h;split at h
 ·rename_i ν _
  split at h
  ·rename_i y hc hy
   simp only[ae]at hc;have hall:=uZ h;obtain⟨x,h1,h2,h3,h4,h5,h6⟩:=hall (∃x',an.inv x'/\more x'/\mi st' (an.bM x')/\mj st' (an.aF x'++iH st an.gU)/\(oZ ν (pw an st x')=true/\y=an.pd x')) (List.mem_append_right _ (List.mem_singleton.2 rfl));subst h6;obtain⟨k1,_⟩:=jo.1 hall;obtain⟨k1,k2⟩:=jo.1 k1;exact⟨x,h1,h2,ν,⟨hc.1,hc.2.1,hy,k1,k2,h3,h4,h5⟩,hc.2.2⟩
  ·exact h.elim
 ·exact h.elim
def wX{ν:List Nat}:∀{l:List (Nat×OC)},oZ ν l=true->∀{n v},look l n=some v->n∉ν
 |[],_,n,v,h=>by simp[look]at h
 |(m,u) :: r,hk,n,v,h=>by
  simp only[oZ,ae,bc]at hk;rw[cF]at h;split at h
  ·rename_i e;subst e
   intro hm;rw[AJ.2 hm]at hk;exact absurd hk.1 (by decide)
  ·exact wX hk.2 h
def qq{an:ju}{y:PD an.aN}{us:List Nat}:∀{l:List (Nat×Nat)} {t:Nat} {v:SV},look (wV an y us l) t=some v->∃k,(t,k)∈l/\v=.s (.one (iy an.aN y us k))
 |[],t,v,h=>by simp[wV,look]at h
 |(m,k) :: r,t,v,h=>by
  simp only[wV,cF]at h;split at h
  ·rename_i e;subst e;cases h;exact⟨k,by simp,rfl⟩
  ·obtain⟨k',h1,h2⟩:=qq h;exact⟨k',by simp[h1],h2⟩
def B6{st:St}{an:ju}{ν:List Nat}:∀{l:List (Nat×Nat)} {t k:Nat},ue st an ν l=true->(t,k)∈l->∃c,look st.env t=some (.s (.one c))/\j0 false st.aF an.aN ν k c=true
 |[],_,_,_,h=>by simp at h
 |(m,i) :: r,t,k,h,hm=>by
  simp only[ue,ae]at h;rcases ah.1 hm with e|hm
  ·cases e
   obtain⟨h1,_⟩:=h;split at h1
   ·rename_i c hc;exact⟨c,hc,h1⟩
   ·cases h1
  ·exact B6 h.2 hm
def Eo{st:St}{an:ju}{y:PD an.aN}:∀{l:List (Nat×Nat)} {t k:Nat} {c:C},(∀p∈yr st an y l,p)->(t,k)∈l->look st.env t=some (.s (.one c))->∀p∈tx an.aN y k c,p
 |[],_,_,_,_,h,_=>by simp at h
 |(m,i) :: r,t,k,c,h,hm,hl=>by
  simp only[yr]at h;obtain⟨h1,h2⟩:=jo.1 h;rcases ah.1 hm with e|hm
  ·cases e
   rw[hl]at h1;exact h1
  ·exact Eo h2 hm hl
def vf{keep:List Nat}:∀{l:List (Nat×Nat)} {t k:Nat},qK keep l=true->(t,k)∈l->t∉keep
 |[],_,_,_,h=>by simp at h
 |(m,i) :: r,t,k,h,hm=>by
  simp only[qK,ae,bc]at h;rcases ah.1 hm with e|hm
  ·cases e
   intro hk;rw[vb.2 hk]at h;exact absurd h.1 (by decide)
  ·exact vf h.2 hm
def Ep{aF:List (Nat×OC)}{aN:List Ob}{ν:List Nat}{o:Ob}{y:OD o}{oc:OC}{f:Nat->C}{l:Loc}(hk:lh o o=true)(h:jU false aF aN ν o oc=some y):aW l l oc (q7 f o y):=by
 cases o with
 |box T cls=>obtain⟨cs,rfl⟩:=(lL h (fun _ =>.any)).1 _ _ rfl;rfl
 |row k t=>
  obtain⟨xs,rfl⟩:=(lL h (fun _ =>.any)).2.2.1 _ _ rfl rfl;cases k with
  |true=>rfl
  |false=>cases hk
 |tok t=>cases hk
 |ext k t=>obtain⟨x,rfl⟩:=(lL h (fun _ =>.any)).2.1 _ _ rfl;exact⟨rfl,rfl⟩
def Er{an:ju}{O:aH}{st st':St}{loc loc0:Nat->Loc}{w w0:World}{a:Act}{W us ν:List Nat}(x:an.X)(hus:nodupB us=true)(husl:us.length=an.aN.length)(husm:∀n∈us,n<st.next+an.aN.length)(hsel:∀(i m:Nat),us[i]?=some m->st.next<=m\/(ν[i]?=some m/\∃o,an.aN[i]?=some o/\lh o o=true))(g:Good cx.eT X (aA O st' loc w))(hA:fS cx (aA O st' loc w) st' a)(ht:Tr (aA O st loc0 w0) (aA O st' loc w))
  (hok:px an st W x=true)(hkeep:∀n∈an.keep,∀v,look st.env n=some v->∃u,look st'.env n=some u/\n9 u v)(hf:Ht an st st' x ν) :
  ∃loc',Good cx.eT X (aA O (fD an st us x) loc' w)/\fS cx (aA O (fD an st us x) loc' w) (fD an st us x) a/\Tr (aA O st loc0 w0) (aA O (fD an st us x) loc' w):=by
 simp only[px,ae]at hok;obtain⟨hb1,hb2,hkeys,hnr⟩:=hok;have hlen:ν.length=us.length:=by rw[husl];exact(pr hf.get).symm
 let loc':=fN us (ν.map loc) loc
 have hkept:∀(i n:Nat),n<st.next->us[i]?=some n->ν[i]?=some n/\∃o,an.aN[i]?=some o/\lh o o=true:=fun i n hn hi=>(hsel i n hi).resolve_left (by omega)
 have hlow:∀n,n<st.next->loc' n=loc n:=fun n hn=>by
  by_cases hm:n∈us
  ·obtain⟨i,hi⟩:=List.getElem?_of_mem hm
   exact kO hus hi (by simp[(hkept i n hn hi).1])
  ·exact oX hm
 have hrest:∀m oc,look (pw an st x) m=some oc->m<st.next/\m∉ν/\∃u,look st'.aF m=some u/\aW (loc m) (loc m) u oc/\u.lo=oc.lo/\OR cx.eT X (aA O st' loc w) (loc m) oc:=by
  intro m oc hm;obtain⟨u,hu,hs⟩:=oe hf.aF hm;obtain⟨h1,h2,h3⟩:=B4 hs (g.obj m u hu).2;exact⟨(nE hb2 hm).1,wX hf.out hm,u,hu,h2,h3,h1⟩
 have hob:∀m oc,look (fD an st us x).aF m=some oc->(∃(i n:Nat) (o:Ob) (y:OD o) (oc0:OC),ν[i]?=some n/\us[i]?=some m/\an.aN[i]?=some o/\look st'.aF n=some oc0/\jU false st'.aF an.aN ν o oc0=some y/\
   oc=q7 (iy an.aN (an.pd x) us) o y/\loc' m=loc n)\/(m∉us/\look (pw an st x) m=some oc/\loc' m=loc m):=by
  intro m oc hm;simp only[fD,eQ]at hm;split at hm
  ·rename_i oc' hm'
   cases hm;obtain⟨i,n,o,y,oc0,k1,k2,k3,k4,k5,k6,_⟩:=rq hf.get (rp (X:=X) g hf.get hf.get hf.conds) hlen hm';exact .inl ⟨i,n,o,y,oc0,k1,k2,k3,k4,k5,k6,kO hus k2 (by simp[k1])⟩
  ·rename_i hm'
   have hnin:m∉us:=fun hmem=>by
    obtain⟨oc1,h2⟩:=qG (f:=iy an.aN (an.pd x) us) (x:=an.pd x) husl.symm hmem;rw[h2]at hm';cases hm'
   exact .inr ⟨hnin,hm,oX hnin⟩
 have hAsub:∀b o,(aA O (fD an st us x) loc' w).A b o->(aA O st' loc w).A b o:=by
  rintro b off (h|⟨m,oc,h1,h2,h3⟩)
  ·exact .inl h
  ·rcases hob m oc h1 with⟨i,n,o,y,oc0,k1,k2,k3,k4,k5,k6,k7⟩|⟨k1,k2,k3⟩
   ·refine .inr ⟨n,oc0,k4,by simp only[aA]at h2;rw[k7]at h2;exact h2,?_⟩
    rcases Dv (f:=iy an.aN (an.pd x) us) k5 with e|e
    ·rw[<-e,<-k6];exact h3
    ·cases e
   ·obtain⟨_,_,u,hu,_,hlo,_⟩:=hrest m oc k2
    exact .inr ⟨m,u,hu,by simp only[aA]at h2;rw[k3]at h2;exact h2,by rw[hlo];exact h3⟩
 have hcell:∀b o v,¬(aA O st' loc w).A b o->w.cell? ⟨b,o,none⟩=some v->w.cell? ⟨b,o,none⟩=some v/\¬(aA O (fD an st us x) loc' w).A b o:=fun b o v h1 h2=>⟨h2,fun h=>h1 (hAsub b o h)⟩
 have hrel:∀{c:C} {v:Value},qI st.next c=true->CR cx.eT (aA O st' loc w) c v->CR cx.eT (aA O (fD an st us x) loc' w) c v:=fun hb hv=>
  J6 (S:=aA O st' loc w) (S':=aA O (fD an st us x) loc' w) (k:=st.next) hcell (by simp[aA,fD]) (fun n hn=>hlow n hn) (fun n oc hn h=>by
   rcases hob n oc h with⟨i,n',o,y,oc0,k1,k2,k3,k4,k5,k6,_⟩|⟨k1,k2,k3⟩
   ·obtain⟨e1,o',e2,e3⟩:=hkept i n hn k2
    rw[k1]at e1;cases e1;rw[k3]at e2;cases e2;exact⟨oc0,k4,by rw[k6];exact Ep e3 k5⟩
   ·obtain⟨_,_,u,hu,hk,_,_⟩:=hrest n oc k2
    exact⟨u,hu,hk⟩) hb hv
 obtain⟨gN,laid⟩:=MI (X:=X) g hf.get hf.conds hf.nodup (O2:=O) (ν2:=us) (rest:=pw an st x) (locR:=loc) (st2:=fD an st us x) hus hlen (by simp only[fD])
  (fun n hn=>by have:=husm n hn;simp only[fD];exact this)
  (fun n hn b hb off h=>by
   obtain⟨_,oc,_,_,k,_⟩:=mw hf.get hn;exact g.out n oc b off k hb h)
  (fun n hn b hb m oc h1 h2 h3=>by
   obtain⟨_,oc0,_,_,k,_⟩:=mw hf.get hn;obtain⟨_,hmν,u,hu,_⟩:=hrest m oc h1;have:=g.apart n m oc0 u b k hu hb h3;exact hmν (by rw[<-this];exact hn))
  (fun m oc h1 h2=>by
   obtain⟨hm,_,u,hu,hk,hlo,hor⟩:=hrest m oc h1;refine⟨by simp only[fD];omega,?_⟩;have hb:=(nE hb2 h1).2;cases oc with
   |cells T cs=>
    obtain⟨b,vs,h1,h2,h3,h4⟩:=hor;exact⟨b,vs,h1,h2,h3,r8 (k:=st.next) hrel hb h4⟩
   |aV t xs=>exact Hp.to (S:=aA O st' loc w) (S':=aA O (fD an st us x) loc' w) rfl (.inr hAsub) hor
   |tok t xs=>exact Hp.to (X:=X) (S:=aA O st' loc w) (S':=aA O (fD an st us x) loc' w) (l:=loc m) rfl (.inr hAsub) hor
   |arr t xs=>
    obtain⟨b,vs,T,h1,h2,h3,h4,h5⟩:=hor;exact⟨b,vs,T,h1,h2,h3,h4,fun i y hy=>let⟨us,r1,r2⟩:=h5 i y hy;⟨us,r1.frame hcell,r2⟩⟩
   |ext k t x=>exact hor
   |iter cs seen cl=>obtain⟨b,m,c,sn,k1,k2,k3,k4,k5⟩:=hor;exact⟨b,m,c,sn,k1,k2,k3,r8 (k:=st.next) hrel hb k4,k5⟩)
  (fun m m' oc oc' b h1 h2 _ _ h3 h4=>by
   obtain⟨_,_,u,hu,_⟩:=hrest m oc h1;obtain⟨_,_,u',hu',_⟩:=hrest m' oc' h2;exact g.apart m m' u u' b hu hu' h3 h4)
  (fun m oc b off h1 _ h2=>by
   obtain⟨_,_,u,hu,_⟩:=hrest m oc h1;exact g.out m u b off hu h2)
  (.inr hAsub)
  (fun b hb ⟨m,oc,h1,h2⟩=>by
   rcases hob m oc h1 with⟨i,n,o,y,oc0,k1,k2,k3,k4,k5,k6,k7⟩|⟨k1,k2,k3⟩
   ·refine g.kX.2 b hb ⟨n,oc0,k4,?_⟩
    have e:fN us (ν.map loc) loc m=loc n:=k7;simp only[aA]at h2;rw[e]at h2;exact h2
   ·obtain⟨_,_,u,hu,_⟩:=hrest m oc k2
    have e:fN us (ν.map loc) loc m=loc m:=k3;refine g.kX.2 b hb ⟨m,u,hu,?_⟩;simp only[aA]at h2;rw[e]at h2;exact h2)
 refine⟨loc',gN,⟨hA.size,hA.defers,fun t sv hl =>?_⟩,?_⟩
 ·simp only[fD,eQ]at hl
  split at hl
  ·rename_i v hv
   cases hl;obtain⟨k,hk,rfl⟩:=qq hv;obtain⟨c,hc,hs⟩:=B6 hf.refs hk;have hcv:CR cx.eT (aA O st' loc w) c (a.tmps.getD t undef):=hA.env t _ hc;exact BZ laid (Du g hcv hf.get hs (Eo hf.XJ hk hc))
  ·have hl2:look (yt an st x) t=some sv:=hl
   have hst:∃u,look st'.env t=some u/\n9 u sv:=by
    simp only[yt,eQ]at hl2;split at hl2
    ·rename_i v hv;cases hl2;exact od hf.env hv
    ·obtain⟨h1,h2⟩:=iI hl2;exact hkeep t h1 sv h2
   obtain⟨u,hu,hs⟩:=hst;have hv:=B2 hs (hA.env t u hu);obtain⟨v0,rfl,hb⟩:=wb hb1 hl2;cases v0 with
   |one c=>exact hrel hb hv
   |agg cs=>obtain⟨vs,h1,h2⟩:=hv;exact⟨vs,h1,r8 (k:=st.next) hrel hb h2⟩
 ·refine{O:=ht.O,next:=by simp[aA,fD],os:=ht.os,output:=ht.output,size:=ht.size,own:=fun b hb =>?_,cell:=fun b o v h1 h2 =>?_,block:=ht.block,loc:=fun n hn hfx =>?_,kind:=fun n oc hn h =>?_}
  ·obtain⟨m,oc,h1,h2⟩:=hb
   rcases hob m oc h1 with⟨i,n,o,y,oc0,k1,k2,k3,k4,k5,k6,k7⟩|⟨k1,k2,k3⟩
   ·exact ht.own b ⟨n,oc0,k4,by simp only[aA]at h2;rw[k7]at h2;exact h2⟩
   ·obtain⟨_,_,u,hu,_⟩:=hrest m oc k2
    exact ht.own b ⟨m,u,hu,by simp only[aA]at h2;rw[k3]at h2;exact h2⟩
  ·obtain⟨k1,k2⟩:=ht.cell b o v h1 h2
   exact⟨k1,fun h=>k2 (hAsub b o h)⟩
  ·show(loc' n).v=_/\(_->loc' n=_)
   rw[hlow n hn];exact ht.loc n hn hfx
  ·rcases hob n oc h with⟨i,n',o,y,oc0,k1,k2,k3,k4,k5,k6,_⟩|⟨k1,k2,k3⟩
   ·obtain⟨e1,o',e2,e3⟩:=hkept i n hn k2
    rw[k1]at e1;cases e1;rw[k3]at e2;cases e2;obtain⟨oc1,m1,m2⟩:=ht.kind n oc0 hn k4;refine⟨oc1,m1,?_⟩;show aW _ (loc' n) _ _;rw[hlow n hn,k6];exact m2.comp (Ep e3 k5)
   ·obtain⟨_,_,u,hu,hk,_,_⟩:=hrest n oc k2
    obtain⟨oc1,m1,m2⟩:=ht.kind n u hn hu;refine⟨oc1,m1,?_⟩;show aW _ (loc' n) _ _;rw[hlow n hn];exact m2.comp hk
def SL{an:ju}{st:St}(h:Hr an st=true):nodupB (p4 an st)=true/\(p4 an st).length=an.aN.length/\∀n∈p4 an st,n<st.next+an.aN.length:=by
 unfold Hr at h;split at h
 ·rename_i hs
  have e:p4 an st=upto st.next an.aN.length:=by unfold p4;rw[hs]
  rw[e];exact⟨kP _ _,u5 _ _,fun n hn=>(r7 hn).2⟩
 ·simp only[ae,b3]at h
  exact⟨h.1,ag h.2.1,fun n hn=>by have:=h.2.2 n hn;simpa[Nat.blt_eq]using this⟩
def Es{b:Nat}:∀{aN:List Ob} {us ν:List Nat} {i m:Nat},u9 b aN us ν=true->us[i]?=some m->b<=m\/(ν[i]?=some m/\∃o,aN[i]?=some o/\lh o o=true)
 |_,[],_,_,_,_,h=>by simp at h
 |[],_ :: _,_,_,_,h,_=>by simp[u9]at h
 |_ :: _,_ :: _,[],_,_,h,_=>by simp[u9]at h
 |o :: os,u :: us,n :: ns,0,m,h,hm=>by
  simp at hm;subst hm;simp only[u9,ae,cg]at h;rcases h.1 with h1|h1
  ·exact .inl (dd h1)
  ·exact .inr ⟨by simp[ag h1.1],o,by simp,h1.2⟩
 |o :: os,u :: us,n :: ns,i+1,m,h,hm=>by
  simp only[u9,ae]at h;simpa using Es h.2 (by simpa using hm)
def SM{an:ju}{st:St}{ν:List Nat}(h:wW an st ν=true)(i m:Nat)(hm:(p4 an st)[i]?=some m):st.next<=m\/(ν[i]?=some m/\∃o,an.aN[i]?=some o/\lh o o=true):=by
 unfold wW at h;split at h
 ·rename_i hs
  have e:p4 an st=upto st.next an.aN.length:=by unfold p4;rw[hs]
  rw[e]at hm;exact .inl (r7 (ax hm)).1
 ·exact Es h hm
def Et{an:ju}{O:aH}{st st':St}{loc loc0:Nat->Loc}{w w0:World}{a:Act}{W:List Nat}(x:an.X)(g:Good cx.eT X (aA O st' loc w))(hA:fS cx (aA O st' loc w) st' a)(ht:Tr (aA O st loc0 w0) (aA O st' loc w))
  (hok:px an st W x=true)(hus:Hr an st=true)(hkeep:∀n∈an.keep,∀v,look st.env n=some v->∃u,look st'.env n=some u/\n9 u v)(hf:∃ν,Ht an st st' x ν/\wW an st ν=true) :
  ∃loc',Good cx.eT X (aA O (jK an st x) loc' w)/\fS cx (aA O (jK an st x) loc' w) (jK an st x) a/\Tr (aA O st loc0 w0) (aA O (jK an st x) loc' w):=by
 obtain⟨ν,hf,hs⟩:=hf;obtain⟨u1,u2,u3⟩:=SL hus;exact Er x u1 u2 u3 (SM hs) g hA ht hok hkeep hf
def ML{an:ju}{st:St}{W:List Nat}{x:an.X}(hok:px an st W x=true){n:Nat}(hn:n∈an.keep){v:SV}(h:look (jK an st x).env n=some v)(hW:n∉W):look st.env n=some v:=by
 simp only[px,ae]at hok;obtain⟨_,_,hkeys,hnr⟩:=hok;simp only[jK,fD,yt,eQ]at h;split at h
 ·rename_i u hu
  obtain⟨k,hk,_⟩:=qq hu;exact absurd hn (vf hnr hk)
 ·split at h
  ·rename_i u hu;exact absurd (qp hkeys hu) hW
  ·exact(iI h).2
def Eu{O:aH}{st:St}{loc:Nat->Loc}{w:World}{an:ju}{W:List Nat}{K:St->VC}(hdis:sQ an.keep W=true)
  (hk:(VC.all an.X fun x =>.imp (an.inv x) (match jM st.next (bV an st x).env&&(jz st.next (bV an st x).aF&&mX W (an.bM x))with
     |true=>K (bV an st x)
     |false =>.ff)).holds){a':Act}{w':World}:fZ cx X O (ly an st) W st (aA O st loc w) a' w'->fZ cx X O K W st (aA O st loc w) a' w':=by
 have hkeepW:=sR hdis;rintro⟨st2,loc2,k1,k2,k3,k4,k5⟩;simp only[ly]at k1;split at k1
 case h_2=>exact k1.elim
 rename_i hpres;obtain⟨x',hx',hs',ho'⟩:=k1;have hvx:=hk x' hx';split at hvx
 case h_2=>exact hvx.elim
 rename_i hbb;simp only[ae]at hbb;have hhead:∀t,t∉W->∀v,look (bV an st x').env t=some v->look st.env t=some v:=by
  intro t ht v hv;simp only[bV,eQ]at hv;split at hv
  ·rename_i u hu;exact absurd (qp hbb.2.2 hu) ht
  ·exact(iI hv).2
 obtain⟨m1,m2,m3⟩:=ve (an:=an) (st:=st) x' k2 k4 k3 (by
   intro n v hv;simp only[bV,eQ]at hv;split at hv
   ·rename_i u hu;cases hv;exact od hs' hu
   ·obtain⟨hmem,hl⟩:=iI hv
    refine⟨v,?_,jY v⟩;obtain⟨v',hv'⟩:=oA hpres hmem;have:=k5 (hkeepW n hmem).1 n (hkeepW n hmem).2 v' hv';rw[hl]at this;cases this;exact hv')
  (by
   intro n v hv;simp only[bV]at hv;exact oe ho' hv) hbb.1 hbb.2.1
 exact⟨bV an st x',loc2,hvx,m1,m3,m2,fun _ t ht v hv=>hhead t ht v hv⟩
def Ev(hok:lu P cx X){O:aH}{id:Nat}{ops:Array Oper}{draw:Bool}{st:St}{loc:Nat->Loc}{w:World}{a:Act}{K:Ex->St->VC}(hA:fS cx (aA O st loc w) st a)(g:Good cx.eT X (aA O st loc w))(hO:eX O w)
  (h:(yu cx ops draw st (K .normal)).holds):(Code.region id ops draw).wp P (jA cx X O K (dZ ops.toList) st (aA O st loc w)) a w:=by
 have hW:∀(j:Nat) (oj:Oper) (d:Nat),ops[j]?=some oj->oj.dst=some d->d∈dZ ops.toList:=by
  intro j oj d hj hd;exact er.2 ⟨oj,by rw[<-Array.getElem?_toList]at hj;exact ax hj,hd⟩
 have hq:∀st' loc' a' w',(K .normal st').holds->Good cx.eT X (aA O st' loc' w')->Tr (aA O st loc w) (aA O st' loc' w')->fS cx (aA O st' loc' w') st' a'->nC (dZ ops.toList) st st'->
   jA cx X O K (dZ ops.toList) st (aA O st loc w) .normal a' w':=fun st' loc' a' w' h1 h2 h3 h4 h5=>⟨st',loc',h1,h2,h3,h4,h5⟩
 unfold yu at h;cases draw with
 |false=>
  refine wp_region_list ?_;exact yY hok hW ops.toList (fun o ho d hd=>er.2 ⟨o,ho,hd⟩) hA g hO h hq
 |true=>
  split at h
  ·rename_i e;cases e
  ·rename_i e
   split at h
   ·rename_i hreg
    rw[Ll]at h;refine wp_region_any hok.mixed (Dp (loud:=kn cx ops.toList) _ _ _ _ (aA O st loc {w with drawn:=w.drawn+1}).A ?_);have hdrew:Below w.heap.size w {w with drawn:=w.drawn+1}:=⟨rfl,rfl,ai _,fun _ _=>rfl⟩;obtain⟨tr,g'⟩:=pb (S:=aA O st loc w) (S':=aA O st loc {w with drawn:=w.drawn+1}) g rfl rfl rfl rfl hdrew;refine yZ hok hW hreg (fun c a w h=>h) ops.size _ ?_ ⟨hA.size,hA.defers,hA.env.tr tr⟩ g' (hO.tr (ai _)) h ?_
    ·intro j o ho hj
     rw[ba,Array.getElem?_replicate]at hj;split at hj <;> simp at hj
    ·intro st' loc' a' w' h1 h2 h3 h4 h5
     obtain⟨st2,loc2,k1,k2,k3,k4,k5⟩:=fZ.XD (K:=K .normal) (f:=canon st.next (dZ ops.toList)) (W:=dZ ops.toList) hA (fun st'=>by
      rcases BY st.next (dZ ops.toList) st' with e|⟨r,q,k1,k2⟩
      ·exact .inl e
      ·exact .inr ⟨r,q,k1,k2⟩) (⟨st',loc',h1,h2,tr.trans h3,h4,h5⟩:fZ cx X O (fun st'=>K .normal (canon st.next (dZ ops.toList) st')) (dZ ops.toList) st (aA O st loc w) a' w')
     exact hq st2 loc2 a' w' k1 k2 k3 k4 k5
   ·exact h.elim
def SN(hok:lu P cx X)(anns:dX){O:aH}:∀(c:Code) (cur:Nat) {st:St} {loc:Nat->Loc} {w:World} {a:Act} {K:Ex->St->VC},
  fS cx (aA O st loc w) st a->Good cx.eT X (aA O st loc w)->eX O w->(vc cx anns c cur st K).holds->c.wp P (jA cx X O K (writes anns cur c) st (aA O st loc w)) a w:=by
 intro c;induction c with
 |skip=>intro cur st loc w a K hA g hO h;exact wp_skip ⟨st,loc,h,g,Tr.refl _,hA,fun _ _ _ _ h=>h⟩
 |region id ops draw=>
  intro cur st loc w a K hA g hO h;simp only[vc]at h;split at h
  ·exact Ev hok hA g hO h
  ·rename_i an _
   split at h
   case h_2=>exact h.elim
   rename_i hdis;obtain⟨hb,hk⟩:=h;refine wp_mono (Ev (K:=fun e=>match e with|.normal=>ly an st|e=>K e) hok hA g hO hb) ?_;intro e a' w' hq;cases e with
   |normal=>exact Eu hdis hk hq
   |exit i=>exact hq
   |ret=>exact hq
   |goto l=>exact hq.elim
   |panic c=>exact hq.elim
   |outgrown=>exact hq.elim
 |seq c1 c2 ih1 ih2=>
  intro cur st loc w a K hA g hO h;refine wp_seq ?_;refine wp_mono (ih1 cur hA g hO h) ?_;intro e a' w' hq;refine Vo (K:=K) (W:=writes anns cur c1) ?_ (fun e he=>by cases e <;> simp_all) ?_ hq
  ·rintro a1 w1 ⟨st',loc',k1,k2,k3,k4,k5⟩
   refine wp_mono (ih2 cur k4 k2 (hO.tr k3.size) k1) ?_;intro e a2 w2 hq2;exact hq2.mono k3 (W':=writes anns cur (.seq c1 c2)) (fun hm t ht=>k5 (fun h=>hm (a8.2 (.inl h))) t fun hm=>ht (a8.2 (.inl hm))) (fun n hn=>a8.2 (.inr hn))
  ·intro e a1 w1 hq1 _
   exact hq1.mono (Tr.refl _) (fun _ _ _ _ h=>h) (fun n hn=>a8.2 (.inl hn))
 |cond x c1 c2 ih1 ih2=>
  intro cur st loc w a K hA g hO h;have hx:=bN hA.env x;have h1:∀{K},(vc cx anns c1 cur st K).holds->c1.wp P (jA cx X O K (writes anns cur (.cond x c1 c2)) st (aA O st loc w)) a w:=fun h=>
   wp_mono (ih1 cur hA g hO h) fun e a' w' hq=>hq.mono (Tr.refl _) (fun _ _ _ _ h=>h) (fun n hn=>a8.2 (.inl hn))
  have h2:∀{K},(vc cx anns c2 cur st K).holds->c2.wp P (jA cx X O K (writes anns cur (.cond x c1 c2)) st (aA O st loc w)) a w:=fun h=>
   wp_mono (ih2 cur hA g hO h) fun e a' w' hq=>hq.mono (Tr.refl _) (fun _ _ _ _ h=>h) (fun n hn=>a8.2 (.inr hn))
  have base:∀{K:Ex->St->VC},(match eE st.env x with
    |.lit true=>vc cx anns c1 cur st K
    |.lit false=>vc cx anns c2 cur st K
    |.d .bool g =>.ite g (vc cx anns c1 cur st K) (vc cx anns c2 cur st K)
    |_ =>.ff).holds->(Code.cond x c1 c2).wp P (jA cx X O K (writes anns cur (.cond x c1 c2)) st (aA O st loc w)) a w:=by
   intro K h;split at h
   ·rename_i hl;rw[hl]at hx;exact wp_cond_true hx (h1 h)
   ·rename_i hl;rw[hl]at hx;exact wp_cond_false hx (h2 h)
   ·rename_i b hl
    rw[hl]at hx;have hx:=(eS (eT:=cx.eT) (S:=aA O st loc w) (b:=b)).1 hx;cases b
    ·exact wp_cond_false hx (h2 (h.2 rfl))
    ·exact wp_cond_true hx (h1 (h.1 rfl))
   ·exact h.elim
  simp only[vc]at h;split at h
  ·exact base h
  ·rename_i an _
   split at h
   case h_2=>exact h.elim
   rename_i hdis;obtain⟨hb,hk⟩:=h;refine wp_mono (base (K:=fun e st'=>match e with|.normal=>ly an st st'|e=>K e st') hb) ?_;intro e a' w' hq;cases e with
   |normal=>exact Eu hdis hk hq
   |exit i=>exact hq
   |ret=>exact hq
   |goto l=>exact hq.elim
   |panic c=>exact hq.elim
   |outgrown=>exact hq.elim
 |block id b ih=>
  intro cur st loc w a K hA g hO h;refine wp_block ?_;simp only[vc]at h;split at h
  case h_2=>
   rename_i an _;split at h
   case h_2=>exact h.elim
   rename_i hdis;have hkeepW:=sR hdis;obtain⟨hb,hk⟩:=h;refine wp_mono (ih id hA g hO hb) ?_;intro e a' w' hq;have join:fZ cx X O (ly an st) (writes anns id b) st (aA O st loc w) a' w'->jA cx X O K (writes anns cur (.block id b)) st (aA O st loc w) .normal a' w':=by
    rintro⟨st2,loc2,k1,k2,k3,k4,k5⟩;simp only[ly]at k1;split at k1
    case h_2=>exact k1.elim
    rename_i hpres;obtain⟨x',hx',hs',ho'⟩:=k1;have hvx:=hk x' hx';split at hvx
    case h_2=>exact hvx.elim
    rename_i hbb;simp only[ae]at hbb;have hhead:∀t,t∉writes anns id b->∀v,look (bV an st x').env t=some v->look st.env t=some v:=by
     intro t ht v hv;simp only[bV,eQ]at hv;split at hv
     ·rename_i u hu;exact absurd (qp hbb.2.2 hu) ht
     ·exact(iI hv).2
    obtain⟨m1,m2,m3⟩:=ve (an:=an) (st:=st) x' k2 k4 k3 (by
      intro n v hv;simp only[bV,eQ]at hv;split at hv
      ·rename_i u hu;cases hv;exact od hs' hu
      ·obtain⟨hmem,hl⟩:=iI hv
       refine⟨v,?_,jY v⟩;obtain⟨v',hv'⟩:=oA hpres hmem;have:=k5 (hkeepW n hmem).1 n (hkeepW n hmem).2 v' hv';rw[hl]at this;cases this;exact hv')
     (by
      intro n v hv;simp only[bV]at hv;exact oe ho' hv) hbb.1 hbb.2.1
    exact⟨bV an st x',loc2,hvx,m1,m3,m2,fun _ t ht v hv=>hhead t ht v hv⟩
   cases e with
   |normal=>exact join hq
   |exit i=>
    show if i=id then _ else _
    by_cases hi:i=id
    ·rw[if_pos hi]
     subst hi;obtain⟨st',loc',k1,k2⟩:=hq;simp only[bg]at k1;exact join ⟨st',loc',k1,k2⟩
    ·rw[if_neg hi]
     obtain⟨st',loc',k1,k2⟩:=hq;simp only[nX hi]at k1;exact⟨st',loc',k1,k2⟩
   |ret=>exact hq
   |goto l=>exact hq.elim
   |panic c=>exact hq.elim
   |outgrown=>exact hq.elim
  refine wp_mono (ih id hA g hO h) ?_;intro e a' w' hq;cases e with
  |normal=>exact hq
  |exit i=>
   obtain⟨st',loc',k1,k2,k3,k4,k5⟩:=hq;simp only at k1;show if i=id then _ else _
   split at k1
   ·rename_i hi
    rw[if_pos (ag hi)];exact⟨st',loc',k1,k2,k3,k4,k5⟩
   ·rename_i hi
    rw[if_neg (fun e=>by rw[e,bg]at hi;cases hi)];exact⟨st',loc',k1,k2,k3,k4,k5⟩
  |ret=>exact hq
  |goto l=>exact hq.elim
  |panic c=>exact hq.elim
  |outgrown=>exact hq.elim
 |loop b ih=>
  intro cur st loc w a K hA g hO h;simp only[vc]at h;split at h
  ·rename_i hnone
   have hwl:writes anns cur (.loop b)=writes anns cur b:=by simp only[writes,hnone]
   split at h
   case h_2=>exact h.elim
   rename_i an _;split at h
   ·rename_i hdis
    have hkeepW:=sR hdis;obtain⟨⟨x0,hx0,hs0,ho0⟩,h⟩:=h;have hobk:∀x n v,look (bV an st x).aF n=some v->look (an.aF x) n=some v\/look st.aF n=some v:=by
     intro x n v hv;simp only[bV,eQ]at hv;split at hv
     ·rename_i u hu;cases hv;exact .inl hu
     ·exact .inr (Gf hv)
    have hhead:∀x,mX (writes anns cur b) (an.bM x)=true->∀t,t∉writes anns cur b->∀v,look (bV an st x).env t=some v->look st.env t=some v:=by
     intro x hk t ht v hv;simp only[bV,eQ]at hv;split at hv
     ·rename_i u hu;exact absurd (qp hk hu) ht
     ·exact(iI hv).2
    refine wp_loop_ghost (fun n a' w'=>∃x loc',an.inv x/\an.cB x=n/\jM st.next (bV an st x).env=true/\(jz st.next (bV an st x).aF=true/\mX (writes anns cur b) (an.bM x)=true)/\
     (vc cx anns b cur (bV an st x) fun e st'=>match e with
       |.normal=>match mW st'.env an.keep with
        |true =>.leaf (∃x',an.inv x'/\an.cB x'<an.cB x/\mi st' (an.bM x')/\mj st' (an.aF x'++iH st an.gU))
        |false =>.ff
       |e=>K e st').holds/\
     Good cx.eT X (aA O (bV an st x) loc' w')/\fS cx (aA O (bV an st x) loc' w') (bV an st x) a'/\Tr (aA O st loc w) (aA O (bV an st x) loc' w')) (an.cB x0) ?_ ?_
    ·have hx:=h x0 hx0
     split at hx
     ·rename_i hb
      simp only[ae]at hb;obtain⟨m1,m2,m3⟩:=ve (an:=an) (st:=st) x0 g hA (Tr.refl _) (by
        intro n v hv;simp only[bV,eQ]at hv;split at hv
        ·rename_i u hu;cases hv;exact od hs0 hu
        ·obtain⟨_,hl⟩:=iI hv
         exact⟨v,hl,jY v⟩)
       (by
        intro n v hv;rcases hobk x0 n v hv with hv|hv
        ·exact oe ho0 hv
        ·exact⟨v,hv,J7 v⟩) hb.1 hb.2.1
      exact⟨x0,loc,hx0,rfl,hb.1,hb.2,hx,m1,m2,m3⟩
     ·exact hx.elim
    ·rintro n a1 w1 ⟨x,loc1,hx,hn,hb1,hb2,hvc,g1,hA1,tr1⟩
     refine wp_mono (ih cur hA1 g1 (hO.tr tr1.size) hvc) ?_;intro e a2 w2 hq;have up:∀Kx:St->VC,fZ cx X O Kx (writes anns cur b) (bV an st x) (aA O (bV an st x) loc1 w1) a2 w2->fZ cx X O Kx (writes anns cur (.loop b)) st (aA O st loc w) a2 w2:=by
      rintro Kx ⟨st2,loc2,k1,k2,k3,k4,k5⟩;exact⟨st2,loc2,k1,k2,tr1.trans k3,k4,fun hm t ht v hv=>by rw[hwl]at hm ht;exact hhead x hb2.2 t ht v (k5 hm t ht v hv)⟩
     cases e with
     |normal=>
      obtain⟨st2,loc2,k1,k2,k3,k4,k5⟩:=hq;simp only at k1;split at k1
      case h_2=>exact k1.elim
      rename_i hpres;obtain⟨x',hx',hlt,hs',ho'⟩:=k1;have hvx:=h x' hx';refine⟨an.cB x',by rw[<-hn];exact hlt,?_⟩;split at hvx
      ·rename_i hb
       simp only[ae]at hb;obtain⟨m1,m2,m3⟩:=ve (an:=an) (st:=st) x' k2 k4 (tr1.trans k3) (by
         intro n v hv;simp only[bV,eQ]at hv;split at hv
         ·rename_i u hu;cases hv;exact od hs' hu
         ·obtain⟨hmem,hl⟩:=iI hv
          refine⟨v,?_,jY v⟩;obtain⟨v',hv'⟩:=oA hpres hmem;have:=hhead x hb2.2 n (hkeepW n hmem).2 v' (k5 (hkeepW n hmem).1 n (hkeepW n hmem).2 v' hv');rw[hl]at this;cases this;exact hv')
        (by
         intro n v hv;simp only[bV]at hv;exact oe ho' hv) hb.1 hb.2.1
       exact⟨x',loc2,hx',rfl,hb.1,hb.2,hvx,m1,m2,m3⟩
      ·exact hvx.elim
     |exit i=>exact up _ hq
     |ret=>exact up _ hq
     |goto l=>exact hq.elim
     |panic c=>exact hq.elim
     |outgrown=>exact hq.elim
   ·exact h.elim
  ·rename_i f hsome
   have hwl:writes anns cur (.loop b)=allM :: writes anns cur b:=by simp only[writes,hsome]
   generalize Hs st (f st)=an at h;split at h
   case h_2=>exact h.elim
   rename_i hdis;have hkeepW:=sR hdis;obtain⟨hfit,h⟩:=h;obtain⟨x0,hx0,_,hf0⟩:=En hfit;refine wp_loop_ghost (fun n a' w'=>∃x loc',an.inv x/\an.cB x=n/\(px an st (writes anns cur b) x&&Hr an st)=true/\
    (vc cx anns b cur (jK an st x) fun e st'=>match e with
      |.normal=>match mW st'.env an.keep with
       |true=>B1 an st st' fun x'=>an.cB x'<an.cB x
       |false =>.ff
      |e=>K e st').holds/\
    Good cx.eT X (aA O (jK an st x) loc' w')/\fS cx (aA O (jK an st x) loc' w') (jK an st x) a'/\Tr (aA O st loc w) (aA O (jK an st x) loc' w')) (an.cB x0) ?_ ?_
   ·have hx:=h x0 hx0
    split at hx
    case h_2=>exact hx.elim
    rename_i hok2;obtain⟨loc',m1,m2,m3⟩:=Et (an:=an) (st:=st) x0 g hA (Tr.refl _) (ae _ _▸hok2).1 (ae _ _▸hok2).2 (fun n hn v hv=>⟨v,hv,jY v⟩) hf0;exact⟨x0,loc',hx0,rfl,hok2,hx,m1,m2,m3⟩
   ·rintro n a1 w1 ⟨x,loc1,hx,hn,hokx,hvc,g1,hA1,tr1⟩
    refine wp_mono (ih cur hA1 g1 (hO.tr tr1.size) hvc) ?_;intro e a2 w2 hq;have up:∀Kx:St->VC,fZ cx X O Kx (writes anns cur b) (jK an st x) (aA O (jK an st x) loc1 w1) a2 w2->fZ cx X O Kx (writes anns cur (.loop b)) st (aA O st loc w) a2 w2:=by
     rintro Kx ⟨st2,loc2,k1,k2,k3,k4,k5⟩;exact⟨st2,loc2,k1,k2,tr1.trans k3,k4,fun hm=>by rw[hwl]at hm;exact absurd (List.mem_cons_self) hm⟩
    cases e with
    |normal=>
     obtain⟨st2,loc2,k1,k2,k3,k4,k5⟩:=hq;simp only at k1;split at k1
     case h_2=>exact k1.elim
     rename_i hpres;obtain⟨x',hx',hlt,hf'⟩:=En k1;have hvx:=h x' hx';split at hvx
     case h_2=>exact hvx.elim
     rename_i hok2;refine⟨an.cB x',by rw[<-hn];exact hlt,?_⟩;obtain⟨loc',m1,m2,m3⟩:=Et (an:=an) (st:=st) x' k2 k4 (tr1.trans k3) (ae _ _▸hok2).1 (ae _ _▸hok2).2 (fun n hn v hv=>by
      obtain⟨v',hv'⟩:=oA hpres hn;have h1:=k5 (hkeepW n hn).1 n (hkeepW n hn).2 v' hv';refine⟨v',hv',?_⟩;have h2:=ML (ae _ _▸hokx).1 hn h1 (hkeepW n hn).2;rw[hv]at h2;cases h2;exact jY v) hf'
     exact⟨x',loc',hx',rfl,hok2,hvx,m1,m2,m3⟩
    |exit i=>exact up _ hq
    |ret=>exact up _ hq
    |goto l=>exact hq.elim
    |panic c=>exact hq.elim
    |outgrown=>exact hq.elim
 |rangeFunc f ps X0 b _ _=>intro cur st loc w a K _ _ _ h;exact h.elim
 |exit id=>intro cur st loc w a K hA g hO h;exact wp_exit ⟨st,loc,h,g,Tr.refl _,hA,fun _ _ _ _ h=>h⟩
 |scope b _=>intro cur st loc w a K _ _ _ h;exact h.elim
 |label l=>intro cur st loc w a K _ _ _ h;exact h.elim
 |goto l=>intro cur st loc w a K _ _ _ h;exact h.elim
 |ret=>intro cur st loc w a K hA g hO h;exact wp_ret ⟨st,loc,h,g,Tr.refl _,hA,fun _ _ _ _ h=>h⟩
 |refuse why=>intro cur st loc w a K _ _ _ h;exact h.elim
end
@[reducible] def HL:List Ty->Type
 |[]=>Unit
 |[t]=>D t
 |t :: u :: r=>D t×HL (u :: r)
def kQ:List Ty->Bool
 |[]=>true
 |t :: r=>t.flat&&kQ r
def Gz(st:St)(want:Ty)(n:Nat):Option (D want):=
 match look st.aF n with
 |some (.ext 0 t xs)=>match h:Ty.beq t want with
  |true=>some (cJ h (a:=t) xs)
  |false=>none
 |_=>none
def MM(lend:Bool)(st:St)(t:Ty)(a:cO):Option (D t):=
 match lend,t,a with
 |true,.slice e,.one (.aV n)=>wz st e (.aV n)
 |true,t,.one (.xd n .top)=>Gz st t n
 |_,t,a=>qY t a
def oB(lend:Bool)(st:St):(ts:List Ty)->List cO->Option (HL ts)
 |[],[]=>some ()
 |[t],[a]=>MM lend st t a
 |t :: u :: r,a :: X0=>match MM lend st t a,oB lend st (u :: r) X0 with
  |some x,some xs=>some (x,xs)
  |_,_=>none
 |_,_=>none
def p5:(ts:List Ty)->HL ts->List cO
 |[],_=>[]
 |[t],y=>[.one (.d t y)]
 |t :: u :: r,ys =>.one (.d t ys.1) :: p5 (u :: r) ys.2
def sU:List cO->SV
 |[v] =>.s v
 |vs =>.mP vs
def wY(st:St)(c:C):C×St:=
 match c with
 |.aV n=>match look st.aF n with
  |some (.aV t xs)=>(.d (.slice t) xs,bA st n)
  |_=>(c,st)
 |.xd n .top=>match look st.aF n with
  |some (.ext 0 t xs)=>(.d t xs,bA st n)
  |_=>(c,st)
 |c=>(c,st)
def vg:St->List C->List C×St
 |st,[]=>([],st)
 |st,c :: cs=>match wY st c with
  |(c',st1)=>match vg st1 cs with
   |(cs',st2)=>(c' :: cs',st2)
def AL(st:St)(v:cO):cO×St:=
 match v with
 |.one c=>match wY st c with
  |(c',st')=>(.one c',st')
 |.agg cs=>match vg st cs with
  |(cs',st')=>(.agg cs',st')
def Dw(lend:Bool)(st:St)(v:cO):cO×St:=
 match lend,v with
 |true,.one c=>(.one c,st)
 |_,v=>AL st v
def tC(lend:Bool):St->List cO->List cO×St
 |st,[]=>([],st)
 |st,v :: vs=>match Dw lend st v with
  |(v',st1)=>match tC lend st1 vs with
   |(vs',st2)=>(v' :: vs',st2)
def p7(ts rts:List Ty)(pre:HL ts->Prop)(post:HL ts->HL rts->Prop):aT:=fun args st K=>
 match tC (kQ rts) st args with
 |(args,st)=>match oB (kQ rts) st ts args with
  |some xs =>.and (pre xs) (.all (HL rts) fun ys =>.imp (post xs ys) (K (sU (p5 rts ys)) st))
  |none =>.ff
def cC(ts rts:List Ty)(pre:HL ts->Prop)(g:HL ts->HL rts):aT:=fun args st K=>
 match tC (kQ rts) st args with
 |(args,st)=>match oB (kQ rts) st ts args with
  |some xs =>.and (pre xs) (K (sU (p5 rts (g xs))) st)
  |none =>.ff
inductive WR (α:Type) where
 |ret (a:α)
 |ite (c:Bool) (a b:WR α)
def WR.eval{α:Type}:WR α->α
 |.ret a=>a
 |.ite c a b=>match c with
  |true=>a.eval
  |false=>b.eval
def Po(st:St)(want:Ty)(c:C):Option (D want):=
 match c with
 |.aV n=>match look st.aF n with
  |some (.aV t xs)=>match h:Ty.beq (.slice t) want with
   |true=>some (cJ h (a:=.slice t) xs)
   |false=>none
  |_=>none
 |.xd n .top=>Gz st want n
 |c=>sC want c
def oC(st:St):(t:Ty)->List C->Option (D t×List C)
 |.prod a b,cs=>match oC st a cs with
  |some (x,cs1)=>match oC st b cs1 with
   |some (y,cs2)=>some ((x,y),cs2)
   |none=>none
  |none=>none
 |.unit,cs=>some ((),cs)
 |t,c :: cs=>match Po st t c with
  |some x=>some (x,cs)
  |none=>none
 |_,[]=>none
def MN(st:St)(want:Ty):cO->Option (D want)
 |.one c=>Po st want c
 |.agg cs=>match want.one with
  |true=>none
  |false=>match oC st want cs with
   |some (x,[])=>some x
   |_=>none
def wZ(st:St):(ts:List Ty)->List cO->Option (HL ts)
 |[],[]=>some ()
 |[t],[a]=>MN st t a
 |t :: u :: r,a :: X0=>match MN st t a,wZ st (u :: r) X0 with
  |some x,some xs=>some (x,xs)
  |_,_=>none
 |_,_=>none
def qt(cx:Cx)(st:St):List ResultVar->(List cO->VC)->VC
 |[],K=>K []
 |.tmp t :: r,K=>match ev st.env (.tmp t)with
  |.s v=>qt cx st r fun vs=>K (v :: vs)
  |_ =>.ff
 |.cell a t :: r,K=>wx cx st t (eE st.env (.tmp a)) fun sv=>match sv with
  |.s v=>qt cx st r fun vs=>K (v :: vs)
  |_ =>.ff
def MO(cx:Cx)(anns:dX)(res:List ResultVar)(c:Code)(st:St)(K:List cO->St->VC):VC:=
 vc cx anns c 0 st fun e st'=>match e with
  |.exit _ =>.ff
  |_=>qt cx st' res fun vs=>K vs st'
def q8(B:Cx)(Γ:List (FuncId×(Bool×aT)))(N:Nat):Cx:={B with Γ:=Γ,N:=N}
def ug:Nat->(ts:List Ty)->HL ts->List (Nat×SV)
 |_,[],_=>[]
 |k,[t],x=>[(k,.s (.one (.d t x)))]
 |k,t :: u :: r,xs=>(k,.s (.one (.d t xs.1))) :: ug (k+1) (u :: r) xs.2
def qu(ts:List Ty)(xs:HL ts):St:={env:=ug 0 ts xs,aF:=[],next:=0}
def Lr(B:Cx)(Γ:List (FuncId×(Bool×aT)))(N:Nat)(anns:dX)(res:List ResultVar)(c:Code)(ts rts:List Ty)(post:HL ts->HL rts->Prop)(xs:HL ts):VC:=
 MO (q8 B Γ N) anns res c (qu ts xs) fun vs st=>match wZ st rts vs with
  |some ys =>.leaf (post xs ys)
  |none =>.ff
section
variable{eT:TypeId}{X:Ext}{P:Program}{cx:Cx}
def lW(eT:TypeId)(A:aH)(w:World):(ts:List Ty)->HL ts->List Value->Prop
 |[],_,vs=>vs=[]
 |[t],x,vs=>∃v,vs=[v]/\VR eT t x A w v
 |t :: u :: r,xs,vs=>∃v vs',vs=v :: vs'/\VR eT t xs.1 A w v/\lW eT A w (u :: r) xs.2 vs'
def vh:List Value->Value
 |[v]=>v
 |vs =>.tuple vs.toArray
structure bW (P:Program) (eT:TypeId) (X:Ext) (f:FuncId) (ts rts:List Ty) (pre:HL ts->Prop) (post:HL ts->HL rts->Prop):Prop where
 fn:∃fn,P.funcs[f]?=some fn/\fn.body.isNone=false/\(fn.name == "runtime.NumGoroutine")=false
 ok:∀O w xs vs,X.wm w->eX O w->lW eT O w ts xs vs->pre xs->
  Calls P f vs.toArray w fun e w'=>∃us ys,e=.returned (vh us)/\post xs ys/\lW eT O w' rts ys us/\Below w.heap.size w w'
def r9(tmps:Array Value):ResultVar->Sem Value
 |.tmp t=>pure (tmps.getD t undef)
 |.cell b t=>do loadVar t (<-asAddr (tmps.getD b undef))
def zA(hok:TyOK P cx){O:aH}{st:St}{loc:Nat->Loc}{w:World}{a:Act}(g:Good cx.eT X (aA O st loc w))(he:gD cx.eT (aA O st loc w) st.env a) :
  ∀{rs:List ResultVar} {K:List cO->VC},(qt cx st rs K).holds->
  ∃vs us,(K vs).holds/\cQ cx.eT (aA O st loc w) vs us/\(rs.mapM (r9 a.tmps):Sem (List Value)).run P w=.ok us w:=by
 intro rs;induction rs with
 |nil=>intro K h;exact⟨[],[],h,.nil,rfl⟩
 |cons r rs ih=>
  intro K h;cases r with
  |tmp t=>
   simp only[qt]at h;split at h
   ·rename_i v hv
    obtain⟨vs,us,h1,h2,h3⟩:=ih h;have hr:=lq he (.tmp t);rw[hv]at hr;refine⟨v :: vs,a.tmps.getD t undef :: us,h1,.cons hr h2,?_⟩;rw[de];simp only[r9,af,ak,aq,h3]
   ·exact h.elim
  |cell b t=>
   simp only[qt]at h;obtain⟨sv,u,h1,h2,h3⟩:=uJ (P:=P) hok g (bN he (.tmp b)) h;split at h1
   ·rename_i v
    obtain⟨vs,us,k1,k2,k3⟩:=ih h1;have h3:=h3 w (Below.refl _ _);refine⟨v :: vs,u :: us,k1,.cons h2 k2,?_⟩;rw[de];have h4:(do loadVar t (<-asAddr (a.tmps.getD b undef)):Sem Value).run P w=.ok u w:=by
     have h3:(ck t (a.tmps.getD b undef)).run P w=.ok u w:=h3;generalize a.tmps.getD b undef=p at h3;cases p with
     |pointer q=>
      cases q with
      |none=>simp[ck,df]at h3
      |some q=>simpa[ck,df,asAddr]using h3
     |_=>simp[ck,df]at h3
    simp only[r9,af]at h4 ⊢;simp only[h4,ak,aq,k3]
   ·exact h1.elim
def cQ.len{S:bI}{xs:List cO}{us:List Value}(h:cQ eT S xs us):xs.length=us.length:=by
 induction h with
 |nil=>rfl
 |cons _ _ ih=>simp[ih]
def w4{S:bI}{vs:List cO}{us:List Value}(h:cQ eT S vs us):dO eT S (sU vs) (vh us):=by
 match vs,us,h with
 |[],[],h=>exact⟨[],rfl,h⟩
 |[v],[u],.cons h1 .nil=>exact h1
 |_ :: _ :: _,_ :: _ :: _,h=>exact⟨_,rfl,h⟩
def tD(hok:lu P cx X){f:FuncId}{fn:Func}{c:Code}(hf:P.funcs[f]?=some fn)(hb:fn.body=some c)(hN:cx.N=fn.ntmps)(anns:dX){O:aH}{st:St}{loc:Nat->Loc}{w:World}
  {args:Array Value}{K:List cO->St->VC}(hsz:args.size<=fn.ntmps)(g:Good cx.eT X (aA O st loc w))(hO:eX O w)
  (henv:∀t sv,look st.env t=some sv->∃v,args[t]?=some v/\dO cx.eT (aA O st loc w) sv v)
  (h:(MO cx anns fn.results.toList c st K).holds) :
  Calls P f args w fun e w'=>∃vs us st' loc',e=.returned (vh us)/\(K vs st').holds/\cQ cx.eT (aA O st' loc' w') vs us/\Good cx.eT X (aA O st' loc' w')/\Tr (aA O st loc w) (aA O st' loc' w'):=by
 refine calls_of_wp hf hb ?_;have hA:fS cx (aA O st loc w) st {tmps:=args++en (fn.ntmps-args.size) undef,defers:=[]}:=by
  refine⟨by simp[hN];omega,rfl,fun t sv ht =>?_⟩;obtain⟨v,hv,hr⟩:=henv t sv ht;have hlt:t<args.size:=by
   rcases a7 t args.size with hh|hh
   ·exact hh
   ·rw[Array.getElem?_eq_none hh]at hv;cases hv
  rw[ba,Array.getElem?_append,if_pos hlt,hv];exact hr
 refine wp_mono (SN hok anns c 0 hA g hO h) ?_;have fin:∀(a':Act) (w':World),fZ cx X O (fun st'=>qt cx st' fn.results.toList fun vs=>K vs st') (writes anns 0 c) st (aA O st loc w) a' w'->a'.defers=[]/\∃v,(results fn a'.tmps).run P w'=.ok v w'/\
   ∃vs us st' loc',Ending.returned v=.returned (vh us)/\(K vs st').holds/\cQ cx.eT (aA O st' loc' w') vs us/\Good cx.eT X (aA O st' loc' w')/\Tr (aA O st loc w) (aA O st' loc' w'):=by
  rintro a' w' ⟨st',loc',k1,k2,k3,k4,_⟩;obtain⟨vs,us,m1,m2,m3⟩:=zA (P:=P) hok.toTyOK k2 k4.env k1;refine⟨k4.defers,vh us,?_,vs,us,st',loc',rfl,m1,m2,k2,k3⟩;have hm:(fn.results.mapM (r9 a'.tmps):Sem (Array Value)).run P w'=.ok us.toArray w':=by
   rw[<-dh (xs:=fn.results),List.mapM_toArray,Sem.run_map,m3];rfl
  have he:results fn a'.tmps=(do
    let xs <-fn.results.mapM (r9 a'.tmps)
    return if h:xs.size=1 then xs[0]else .tuple xs):=by
   unfold results;congr 1
  rw[he,af,hm];simp only[aq,ak]
  match us with
  |[]=>rfl
  |[u]=>rfl
  |_ :: _ :: _=>rfl
 intro e a' w' hq;cases e with
 |normal=>exact fin a' w' hq
 |ret=>exact fin a' w' hq
 |exit n=>obtain⟨st',loc',k1,_⟩:=hq;exact k1.elim
 |goto l=>exact hq.elim
 |panic c=>exact hq.elim
 |outgrown=>exact hq.elim
end
section
variable{X:Ext}{P:Program}{cx:Cx}
def Pp{O:aH}{st:St}{loc:Nat->Loc}{w:World}{b o:Nat}(h:¬(aA O st loc w).A b o):¬O b o:=fun k=>h (.inl k)
def XK{O:aH}{st:St}{loc:Nat->Loc}{w:World}{t:Ty}{x:D t}{v:Value}{eT:TypeId}(h:VR eT t x (aA O st loc w).A w v):VR eT t x O w v:=
 VR.frame h fun _ _ _ ha hc=>⟨hc,Pp ha⟩
def Ls{O:aH}{st:St}{loc:Nat->Loc}{w:World}(g:Good cx.eT X (aA O st loc w)){n:Nat}{t:Ty}{xs:List (D t)}(hob:look st.aF n=some (.aV t xs))
  {v:Value}(hx:CR cx.eT (aA O st loc w) (.aV n) v):VR cx.eT (.slice t) xs O w v:=by
 rcases(g.obj _ _ hob).2 with⟨rfl,⟨a,ha⟩,_⟩|⟨b,vs,T,cap,hl,ig,hheap,hvs,hcap,hbig,he⟩
 ·exact VR.cI rfl ⟨_,rfl,by simp,.inl ⟨rfl,a,0,(hx.2 _ _ hob).trans ha⟩⟩
 refine VR.cI rfl ⟨_,rfl,hbig,.inr ⟨b,0,cap,(hx.2 _ _ hob).trans hl,hcap,fun i y hy =>?_⟩⟩;obtain⟨us,h1,h2⟩:=he i y hy;refine⟨us,h1.frame fun _ _ _ ha hc=>⟨hc,Pp ha⟩,fun j u hj=>⟨?_,?_⟩⟩
 ·rw[aw,cell_of_row w b _ vs T (0,0) hheap];exact h2 j u hj
 ·exact g.out n _ b _ hob (by rw[ig];simp)
def Lt{O:aH}{st:St}{loc:Nat->Loc}{w:World}(g:Good cx.eT X (aA O st loc w)){n:Nat}{t:Ty}{xs:D t}(hob:look st.aF n=some (.ext 0 t xs))
  {v:Value}(hx:CR cx.eT (aA O st loc w) (.xd n .top) v){A:aH}(hA:∀b∈(loc n).bs,∀o,¬A b o):VR cx.eT t xs A w v:=by
 have hd:kI t xs (loc n) w:=X.deep.1 (g.obj _ _ hob).2;obtain⟨e,s,rfl,hs⟩:=sF hd;exact hd.data (hx.2 _ _ hob) hA
def Ew{O:aH}{st:St}{loc:Nat->Loc}{w:World}(g:Good cx.eT X (aA O st loc w)){n:Nat}{t:Ty}{xs:D t}(h:Gz st t n=some xs)
  {v:Value}(hx:CR cx.eT (aA O st loc w) (.xd n .top) v):VR cx.eT t xs O w v:=by
 unfold Gz at h;split at h
 ·rename_i t' ys hob
  split at h
  ·cases h;rename_i hb
   exact lR hb _ (Lt g hob hx fun b hb o=>g.out n _ b o hob hb)
  ·cases h
 ·cases h
def Lu{O:aH}{st:St}{loc:Nat->Loc}{w:World}(g:Good cx.eT X (aA O st loc w)){want:Ty}{c:C}{x:D want}{v:Value}(h:Po st want c=some x)
  (hc:CR cx.eT (aA O st loc w) c v):VR cx.eT want x O w v:=by
 unfold Po at h;split at h
 ·rename_i n
  split at h
  ·rename_i t xs hob
   split at h
   ·cases h;rename_i hb;exact lR hb _ (Ls g hob hc)
   ·cases h
  ·cases h
 ·exact Ew g h hc
 ·exact XK (pW h hc)
def Pq{O:aH}{st:St}{loc:Nat->Loc}{w:World}(g:Good cx.eT X (aA O st loc w)):∀{t:Ty} {cs cs':List C} {x:D t} {vs:List Value},oC st t cs=some (x,cs')->eK cx.eT (aA O st loc w) cs vs->
  ∃us vs',vs=us++vs'/\R cx.eT t x O w us/\eK cx.eT (aA O st loc w) cs' vs':=by
 have one:∀{t:Ty} {c:C} {cs cs':List C} {x:D t} {vs:List Value},(match Po st t c with|some x=>some (x,cs)|none=>none)=some (x,cs')->eK cx.eT (aA O st loc w) (c :: cs) vs->
   ∃us vs',vs=us++vs'/\R cx.eT t x O w us/\eK cx.eT (aA O st loc w) cs' vs':=by
  intro t c cs cs' x vs h hc;cases hc with
  |cons h1 h2 h3=>
   rename_i v vs0;split at h
   ·rename_i y hy
    cases h;exact⟨[v],vs0,rfl,(yQ h2 (Lu g hy h1)).2,h3⟩
   ·cases h
 intro t;induction t with
 |prod a b iha ihb=>
  intro cs cs' x vs h hc;simp only[oC]at h;split at h
  ·rename_i y cs1 h1
   split at h
   ·rename_i z cs2 h2
    cases h;obtain⟨u1,v1,rfl,r1,k1⟩:=iha h1 hc;obtain⟨u2,v2,rfl,r2,k2⟩:=ihb h2 k1;exact⟨u1++u2,v2,by simp,⟨u1,u2,rfl,r1,r2⟩,k2⟩
   ·cases h
  ·cases h
 |unit=>
  intro cs cs' x vs h hc;simp only[oC]at h;cases h;exact⟨[],vs,rfl,rfl,hc⟩
 |bool=>intro cs cs' x vs h hc;cases cs with|nil=>simp[oC]at h|cons c cs=>exact one (t:=.bool) h hc
 |int k=>intro cs cs' x vs h hc;cases cs with|nil=>simp[oC]at h|cons c cs=>exact one (t:=.int k) h hc
 |str=>intro cs cs' x vs h hc;cases cs with|nil=>simp[oC]at h|cons c cs=>exact one (t:=.str) h hc
 |err=>intro cs cs' x vs h hc;cases cs with|nil=>simp[oC]at h|cons c cs=>exact one (t:=.err) h hc
 |gG=>intro cs cs' x vs h hc;cases cs with|nil=>simp[oC]at h|cons c cs=>exact one (t:=.gG) h hc
 |slice e _=>intro cs cs' x vs h hc;cases cs with|nil=>simp[oC]at h|cons c cs=>exact one (t:=.slice e) h hc
def Hu{O:aH}{st:St}{loc:Nat->Loc}{w:World}(g:Good cx.eT X (aA O st loc w)){want:Ty}{c:cO}{x:D want}{v:Value}(h:MN st want c=some x)
  (hc:iz cx.eT (aA O st loc w) c v):VR cx.eT want x O w v:=by
 cases c with
 |one c=>exact Lu g h hc
 |agg cs=>
  simp only[MN]at h;obtain⟨vs,rfl,hcs⟩:=hc;split at h
  ·cases h
  ·rename_i ho
   split at h
   ·rename_i y hy
    cases h;obtain⟨us,vs',rfl,r,k⟩:=Pq g hy hcs;cases k;unfold VR;rw[if_neg (by simp[ho])];exact⟨_,rfl,by simpa using r⟩
   ·cases h
def Hv{O:aH}{st:St}{loc:Nat->Loc}{w:World}(g:Good cx.eT X (aA O st loc w)):∀{ts:List Ty} {vs:List cO} {ys:HL ts} {us:List Value},wZ st ts vs=some ys->
  cQ cx.eT (aA O st loc w) vs us->lW cx.eT O w ts ys us
 |[],[],_,_,_,.nil=>rfl
 |[t],[a],ys,_,h,.cons h1 .nil=>⟨_,rfl,Hu g h h1⟩
 |t :: u :: r,a :: X0,ys,_,h,.cons h1 h2=>by
  simp only[wZ]at h;split at h
  ·rename_i x xs k1 k2
   cases h;exact⟨_,_,rfl,Hu g k1 h1,Hv g k2 h2⟩
  ·cases h
 |[],_ :: _,_,_,h,_=>by simp[wZ]at h
 |[_],[],_,_,h,_=>by simp[wZ]at h
 |[_],_ :: _ :: _,_,_,h,_=>by simp[wZ]at h
 |_ :: _ :: _,[],_,_,h,_=>by simp[wZ]at h
def B7{eT:TypeId}{O:aH}{w:World}{S:bI}(hS:S.w=w)(hA:∀b o,¬O b o->¬S.A b o):∀(ts:List Ty) (k:Nat) (xs:HL ts) (vs:List Value),lW eT O w ts xs vs->
  ∀t sv,look (ug k ts xs) t=some sv->k<=t/\∃v,vs[t-k]?=some v/\dO eT S sv v
 |[],k,xs,vs,_,t,sv,h=>by simp[ug,look]at h
 |[ty],k,x,_,⟨v,rfl,hv⟩,t,sv,h=>by
  simp only[ug,cF]at h;split at h
  ·cases h
   rename_i e;subst e;exact⟨ai _,v,by simp,VR.frame hv fun b o _ ha hc=>⟨by rw[hS];exact hc,hA b o ha⟩⟩
  ·simp[look]at h
 |ty :: u :: r,k,xs,_,⟨v,vs',rfl,hv,hr⟩,t,sv,h=>by
  simp only[ug,cF]at h;split at h
  ·cases h
   rename_i e;subst e;exact⟨ai _,v,by simp,VR.frame hv fun b o _ ha hc=>⟨by rw[hS];exact hc,hA b o ha⟩⟩
  ·obtain⟨h1,v',h2,h3⟩:=B7 hS hA (u :: r) (k+1) xs.2 vs' hr t sv h
   refine⟨by omega,v',?_,h3⟩;rw[show t-k=(t-(k+1))+1 from by omega,List.getElem?_cons_succ];exact h2
def lW.length{eT:TypeId}{O:aH}{w:World}:∀{ts:List Ty} {xs:HL ts} {vs:List Value},lW eT O w ts xs vs->vs.length=ts.length
 |[],_,_,h=>by rw[show _=[]from h];rfl
 |[_],_,_,⟨_,rfl,_⟩=>rfl
 |_ :: u :: r,_,_,⟨_,_,rfl,_,h⟩=>by simp[lW.length h]
def wf:(t:Ty)->D t->Prop
 |.int k,x=>k.min<=x/\x<=k.max
 |.str,x=>x.length<=aM
 |.prod a b,x=>wf a x.1/\wf b x.2
 |.slice e,x=>x.length<=aM/\∀(i:Nat) y,x[i]?=some y->wf e y
 |_,_=>True
def gM:(ts:List Ty)->HL ts->Prop
 |[],_=>True
 |[t],x=>wf t x
 |t :: u :: r,xs=>wf t xs.1/\gM (u :: r) xs.2
def R.wf{eT:TypeId}:∀{t:Ty} {x:D t} {A:aH} {w:World} {vs:List Value},R eT t x A w vs->Vg.wf t x:=by
 intro t;induction t with
 |int k=>intro x A w vs h;exact h.2
 |str=>intro x A w vs h;exact h.2
 |prod a b iha ihb=>intro x A w vs h;obtain⟨_,_,_,h1,h2⟩:=h;exact⟨iha h1,ihb h2⟩
 |slice e ih=>
  intro x A w vs h;obtain⟨v,_,hl,h⟩:=h;refine⟨hl,fun i y hy =>?_⟩;rcases h with⟨rfl,_⟩|⟨b,o,cap,_,_,h⟩
  ·simp at hy
  ·obtain⟨us,h1,_⟩:=h i y hy;exact ih h1
 |_=>intro x A w vs h;trivial
def VR.wf{eT:TypeId}{t:Ty}{x:D t}{A:aH}{w:World}{v:Value}(h:VR eT t x A w v):Vg.wf t x:=(VR.cells h).wf
def lW.wf{eT:TypeId}{O:aH}{w:World}:∀{ts:List Ty} {xs:HL ts} {vs:List Value},lW eT O w ts xs vs->gM ts xs
 |[],_,_,_=>trivial
 |[_],_,_,⟨_,_,h⟩=>h.wf
 |_ :: _ :: _,_,_,⟨_,_,_,h,h'⟩=>⟨h.wf,lW.wf h'⟩
def MP{B:Cx}{X:Ext}{Γ:List (FuncId×(Bool×aT))}{N:Nat}{f:FuncId}{fn:Func}{c:Code}(hok:lu P (q8 B Γ N) X)(hf:P.funcs[f]?=some fn)(hb:fn.body=some c)(hn:(fn.name == "runtime.NumGoroutine")=false)
  (hN:fn.ntmps=N){ts rts:List Ty}(anns:HL ts->dX)(hts:ts.length<=N){pre:HL ts->Prop}{post:HL ts->HL rts->Prop}
  (h:∀xs,gM ts xs->pre xs->(Lr B Γ N (anns xs) fn.results.toList c ts rts post xs).holds) :
  bW P B.eT X f ts rts pre post:=by
 refine⟨⟨fn,hf,by rw[hb];rfl,hn⟩,fun O w xs vs hG hO ha hp =>?_⟩;have g0:Good (q8 B Γ N).eT X (aA O (qu ts xs) (fun _=>default) w):=
  ⟨fun n oc h=>by simp[aA,qu,look]at h,fun n m oc oc' b h=>by simp[aA,qu,look]at h,fun n oc b off h=>by simp[aA,qu,look]at h,hG,fun b hb ⟨n,oc,h,_⟩=>by simp[aA,qu,look]at h⟩
 have hA0:∀b o,¬O b o->¬(aA O (qu ts xs) (fun _=>default) w).A b o:=by
  rintro b o h (k|⟨n,oc,k,_⟩)
  ·exact h k
  ·simp[aA,qu,look]at k
 refine bx (tD hok hf hb hN.symm (anns xs) (by simpa[ha.length,hN]using hts) g0 hO ?_ (h xs ha.wf hp)) ?_
 ·intro t sv ht
  obtain⟨_,v,h1,h2⟩:=B7 (eT:=B.eT) (S:=aA O (qu ts xs) (fun _=>default) w) rfl hA0 ts 0 xs vs ha t sv ht;exact⟨v,by simpa using h1,h2⟩
 ·rintro e w' ⟨vs',us,st',loc',rfl,h1,h2,h3,h4⟩
  split at h1
  ·rename_i ys hys
   refine⟨us,ys,rfl,h1,Hv h3 hys h2,h4.os,h4.output,h4.size,fun k hk=>h4.block k hk ?_⟩;rintro⟨n,oc,k,_⟩;simp[aA,qu,look]at k
  ·exact h1.elim
def lX:aH:=fun _ _=>False
def outer(lend:Bool)(A:aH):aH:=match lend with
 |true=>lX
 |false=>A
def Hw{O:aH}{st:St}{loc:Nat->Loc}{w:World}(g:Good cx.eT X (aA O st loc w)){lend:Bool}{t:Ty}{a:cO}{x:D t}{v:Value}(h:MM lend st t a=some x)
  (ha:iz cx.eT (aA O st loc w) a v):VR cx.eT t x (outer lend (aA O st loc w).A) w v:=by
 have base:qY t a=some x->VR cx.eT t x (outer lend (aA O st loc w).A) w v:=by
  intro h;refine VR.Ds (lS h ha) fun b o k =>?_
  cases lend with
  |true=>exact id
  |false=>exact k
 unfold MM at h;split at h
 ·rename_i e n x' heq
  unfold wz at h;simp only[Db]at h;split at h
  ·rename_i e' ys hob
   split at h
   ·cases h;rename_i hb
    exact lR hb _ (VR.Ds (Ls g hob ha) fun _ _ _=>id)
   ·cases h
  ·cases h
 ·exact VR.Ds (Ew g h ha) fun _ _ _=>id
 ·exact base h
def Ey{O:aH}{st:St}{loc:Nat->Loc}{w:World}(g:Good cx.eT X (aA O st loc w)){lend:Bool}:∀{ts:List Ty} {X0:List cO} {xs:HL ts} {vs:List Value},oB lend st ts X0=some xs->
  cQ cx.eT (aA O st loc w) X0 vs->lW cx.eT (outer lend (aA O st loc w).A) w ts xs vs
 |[],[],_,_,_,.nil=>rfl
 |[t],[a],xs,_,h,.cons h1 .nil=>⟨_,rfl,Hw g h h1⟩
 |t :: u :: r,a :: X0,xs,_,h,.cons h1 h2=>by
  simp only[oB]at h;split at h
  ·rename_i x xs k1 k2
   cases h;exact⟨_,_,rfl,Hw g k1 h1,Ey g k2 h2⟩
  ·cases h
 |[],_ :: _,_,_,h,_=>by simp[oB]at h
 |[_],[],_,_,h,_=>by simp[oB]at h
 |[_],_ :: _ :: _,_,_,h,_=>by simp[oB]at h
 |_ :: _ :: _,[],_,_,h,_=>by simp[oB]at h
def zB{eT:TypeId}{S:bI}{O:aH}{w:World}(hS:S.w=w):∀{ts:List Ty} {ys:HL ts} {us:List Value},(kQ ts=true\/O=S.A)->lW eT O w ts ys us->cQ eT S (p5 ts ys) us
 |[],_,_,_,h=>by rw[show _=[]from h];exact .nil
 |[t],y,_,hl,⟨v,rfl,hv⟩=>by
  refine .cons ?_ .nil;subst hS;rcases hl with hl|hl
  ·simp only[kQ,ep]at hl
   exact VR.of_flat hl hv
  ·subst hl;exact hv
 |t :: u :: r,ys,_,hl,⟨v,vs',rfl,hv,hr⟩=>by
  refine .cons ?_ (zB hS ?_ hr)
  ·subst hS
   rcases hl with hl|hl
   ·simp only[kQ,ae]at hl
    exact VR.of_flat hl.1 hv
   ·subst hl;exact hv
  ·rcases hl with hl|hl
   ·simp only[kQ,ae]at hl ⊢;exact .inl hl.2
   ·exact .inr hl
def Xr{O:aH}{st:St}{loc:Nat->Loc}{w:World}{eT:TypeId}(g:Good eT X (aA O st loc w))(hO:eX O w):eX (aA O st loc w).A w:=by
 rintro b off (h|⟨n,oc,h1,h2,_⟩)
 ·exact hO b off h
 ·exact(g.obj n oc h1).2.inside b h2
def Ez{eT:TypeId}{f:FuncId}{ts rts:List Ty}{pre:HL ts->Prop}{post:HL ts->HL rts->Prop}(h:bW P eT X f ts rts pre post)
  {O:aH}{st:St}{loc:Nat->Loc}{w:World}{args:List cO}{vs:List Value}{xs:HL ts}(hx:oB (kQ rts) st ts args=some xs)(hp:pre xs)
  {K:SV->St->VC}(hK:∀ys,post xs ys->(K (sU (p5 rts ys)) st).holds)
  (g:Good eT X (aA O st loc w))(hO:eX O w)(ha:cQ eT (aA O st loc w) args vs) :
  Calls P f vs.toArray w fun e w'=>∃v sv st' loc',e=.returned v/\(K sv st').holds/\st'.env=st.env/\(true=true->Below w.heap.size w w')/\Good eT X (aA O st' loc' w')/\
   Tr (aA O st loc w) (aA O st' loc' w')/\dO eT (aA O st' loc' w') sv v:=by
 have g':Good (Cx.mk eT [] [] [] 0 [] [] [] false [] []).eT X (aA O st loc w):=g;have hOut:eX (outer (kQ rts) (aA O st loc w).A) w:=by
  intro b off hb;cases hf:kQ rts with
  |true=>rw[hf]at hb;exact hb.elim
  |false=>rw[hf]at hb;exact Xr g hO b off hb
 refine bx (h.ok _ w xs vs g.kX.1 hOut (Ey g' hx ha) hp) ?_;rintro e w' ⟨us,ys,rfl,h1,h2,h3⟩;obtain⟨t,g2⟩:=pb (S':=aA O st loc w') g rfl rfl rfl rfl h3;refine⟨_,_,st,loc,rfl,hK ys h1,rfl,fun _=>h3,g2,t,w4 (zB rfl ?_ h2)⟩;cases hf:kQ rts with
 |true=>exact .inl rfl
 |false=>exact .inr (by simp only[outer];funext b off;simp[bI.A,aA])
def B8{O:aH}{st:St}{loc:Nat->Loc}{w:World}(g:Good cx.eT X (aA O st loc w))(c:C) :
  Tr (aA O st loc w) (aA O (wY st c).2 loc w)/\Good cx.eT X (aA O (wY st c).2 loc w)/\(wY st c).2.env=st.env/\
   ∀v,CR cx.eT (aA O st loc w) c v->CR cx.eT (aA O (wY st c).2 loc w) (wY st c).1 v:=by
 unfold wY;split
 ·rename_i n
  split
  ·rename_i t xs hob
   obtain⟨h1,h2⟩:=mS g n;exact⟨h1,h2,rfl,fun v hv=>yW g hob hv⟩
  ·exact⟨Tr.refl _,g,rfl,fun v hv=>hv⟩
 ·rename_i n
  split
  ·rename_i t xs hob
   obtain⟨h1,h2⟩:=mS g n;refine⟨h1,h2,rfl,fun v hv=>Lt g hob hv fun b hb o =>?_⟩;rintro(hA'|⟨m,oc,k1,k2,k3⟩)
   ·exact g.out n _ b o hob hb hA'
   ·simp only[aA,bA]at k1 k2
    rw[lT]at k1;split at k1
    ·cases k1
    ·rename_i h8;exact h8 (g.apart n m _ _ b hob k1 hb k2)
  ·exact⟨Tr.refl _,g,rfl,fun v hv=>hv⟩
 ·exact⟨Tr.refl _,g,rfl,fun v hv=>hv⟩
def zC{O:aH}{loc:Nat->Loc}{w:World}:∀(cs:List C) {st:St},Good cx.eT X (aA O st loc w)->
  Tr (aA O st loc w) (aA O (vg st cs).2 loc w)/\Good cx.eT X (aA O (vg st cs).2 loc w)/\(vg st cs).2.env=st.env/\
   ∀vs,eK cx.eT (aA O st loc w) cs vs->eK cx.eT (aA O (vg st cs).2 loc w) (vg st cs).1 vs
 |[],st,g=>⟨Tr.refl _,g,rfl,fun vs h=>h⟩
 |c :: cs,st,g=>by
  obtain⟨t1,g1,e1,k1⟩:=B8 g c;obtain⟨t2,g2,e2,k2⟩:=zC cs g1;refine⟨t1.trans t2,g2,e2.trans e1,fun vs h =>?_⟩;cases h with
  |cons h1 h2 h3=>exact .cons ((k1 _ h1).tr t2) h2 (k2 _ (h3.tr t1))
def vj{O:aH}{st:St}{loc:Nat->Loc}{w:World}(g:Good cx.eT X (aA O st loc w))(x:cO) :
  Tr (aA O st loc w) (aA O (AL st x).2 loc w)/\Good cx.eT X (aA O (AL st x).2 loc w)/\(AL st x).2.env=st.env/\
   ∀v,iz cx.eT (aA O st loc w) x v->iz cx.eT (aA O (AL st x).2 loc w) (AL st x).1 v:=by
 cases x with
 |one c=>exact B8 g c
 |agg cs=>
  obtain⟨t1,g1,e1,k1⟩:=zC cs g;exact⟨t1,g1,e1,fun v ⟨vs,h1,h2⟩=>⟨vs,h1,k1 _ h2⟩⟩
def MQ{O:aH}{st:St}{loc:Nat->Loc}{w:World}(g:Good cx.eT X (aA O st loc w))(lend:Bool)(x:cO) :
  Tr (aA O st loc w) (aA O (Dw lend st x).2 loc w)/\Good cx.eT X (aA O (Dw lend st x).2 loc w)/\(Dw lend st x).2.env=st.env/\
   ∀v,iz cx.eT (aA O st loc w) x v->iz cx.eT (aA O (Dw lend st x).2 loc w) (Dw lend st x).1 v:=by
 cases lend with
 |false=>cases x <;> exact vj g _
 |true=>
  cases x with
  |one c=>exact⟨Tr.refl _,g,rfl,fun v hv=>hv⟩
  |agg cs=>exact vj g _
def B9{O:aH}{loc:Nat->Loc}{w:World}(lend:Bool):∀(xs:List cO) {st:St},Good cx.eT X (aA O st loc w)->
  Tr (aA O st loc w) (aA O (tC lend st xs).2 loc w)/\Good cx.eT X (aA O (tC lend st xs).2 loc w)/\(tC lend st xs).2.env=st.env/\
   ∀vs,cQ cx.eT (aA O st loc w) xs vs->cQ cx.eT (aA O (tC lend st xs).2 loc w) (tC lend st xs).1 vs
 |[],st,g=>⟨Tr.refl _,g,rfl,fun vs h=>h⟩
 |x :: xs,st,g=>by
  obtain⟨t1,g1,e1,k1⟩:=MQ g lend x;obtain⟨t2,g2,e2,k2⟩:=B9 lend xs g1;refine⟨t1.trans t2,g2,e2.trans e1,fun vs h =>?_⟩;cases h with
  |cons h1 h3=>exact .cons ((k1 _ h1).tr t2) (k2 _ (h3.tr t1))
def EA{eT:TypeId}{f:FuncId}{q:Bool}{sp:aT}{lend:Bool}
  (h:∀O st loc w args vs K,(sp args st K).holds->Good eT X (aA O st loc w)->eX O w->cQ eT (aA O st loc w) args vs->
   Calls P f vs.toArray w fun e w'=>∃v sv st' loc',e=.returned v/\(K sv st').holds/\st'.env=st.env/\(q=true->Below w.heap.size w w')/\Good eT X (aA O st' loc' w')/\
    Tr (aA O st loc w) (aA O st' loc' w')/\dO eT (aA O st' loc' w') sv v)
  (O:aH)(st:St)(loc:Nat->Loc)(w:World)(args:List cO)(vs:List Value)(K:SV->St->VC)(hs:(sp (tC lend st args).1 (tC lend st args).2 K).holds)
  (g:Good eT X (aA O st loc w))(hO:eX O w)(ha:cQ eT (aA O st loc w) args vs) :
  Calls P f vs.toArray w fun e w'=>∃v sv st' loc',e=.returned v/\(K sv st').holds/\st'.env=st.env/\(q=true->Below w.heap.size w w')/\Good eT X (aA O st' loc' w')/\
   Tr (aA O st loc w) (aA O st' loc' w')/\dO eT (aA O st' loc' w') sv v:=by
 have g':Good (Cx.mk eT [] [] [] 0 [] [] [] false [] []).eT X (aA O st loc w):=g;obtain⟨t1,g1,e1,k1⟩:=B9 lend args g';refine bx (h O _ loc w _ vs K hs g1 hO (k1 _ ha)) ?_;rintro e w' ⟨v,sv,st',loc',h1,h2,h3,h4,h5,h6,h7⟩;exact⟨v,sv,st',loc',h1,h2,h3.trans e1,h4,h5,t1.trans h6,h7⟩
def ir{eT:TypeId}{f:FuncId}{ts rts:List Ty}{pre:HL ts->Prop}{post:HL ts->HL rts->Prop}(h:bW P eT X f ts rts pre post) :
  bX P eT X f true (p7 ts rts pre post):=by
 refine⟨h.fn,EA (lend:=kQ rts) (sp:=fun args st K=>match oB (kQ rts) st ts args with
  |some xs =>.and (pre xs) (.all (HL rts) fun ys =>.imp (post xs ys) (K (sU (p5 rts ys)) st))
  |none =>.ff) fun O st loc w args vs K hs g hO ha =>?_⟩
 split at hs
 ·rename_i xs hx
  exact Ez h hx hs.1 (fun ys hy=>hs.2 ys hy) g hO ha
 ·exact hs.elim
def aE{eT:TypeId}{f:FuncId}{ts rts:List Ty}{pre:HL ts->Prop}{g:HL ts->HL rts}(h:bW P eT X f ts rts pre (fun xs ys=>ys=g xs)) :
  bX P eT X f true (cC ts rts pre g):=by
 refine⟨h.fn,EA (lend:=kQ rts) (sp:=fun args st K=>match oB (kQ rts) st ts args with
  |some xs =>.and (pre xs) (K (sU (p5 rts (g xs))) st)
  |none =>.ff) fun O st loc w args vs K hs hg hO ha =>?_⟩
 split at hs
 ·rename_i xs hx
  exact Ez h hx hs.1 (fun ys hy=>by rw[hy];exact hs.2) hg hO ha
 ·exact hs.elim
def Vp{B:Cx}{N:Nat}(h:TyOK P B):lu P (q8 B [] N) X:=
 {fit:=h.fit,ox:=h.ox,kK:=h.kK,mixed:=h.mixed,arr:=h.arr,uH:=h.uH,eqs:=h.eqs,oK:=h.oK,qE:=h.qE,sG:=h.sG,calls:=fun f q sp hl=>by simp[q8,look]at hl}
def SO{B:Cx}{Γ:List (FuncId×(Bool×aT))}{N:Nat}{f:FuncId}{q:Bool}{sp:aT}(h:bX P B.eT X f q sp)(hΓ:lu P (q8 B Γ N) X):lu P (q8 B ((f,q,sp) :: Γ) N) X:=
 {fit:=hΓ.fit,ox:=hΓ.ox,kK:=hΓ.kK,mixed:=hΓ.mixed,arr:=hΓ.arr,uH:=hΓ.uH,eqs:=hΓ.eqs,oK:=hΓ.oK,qE:=hΓ.qE,sG:=hΓ.sG,calls:=fun f' q' sp' hl=>by
   simp only[q8,cF]at hl;split at hl
   ·rename_i e;subst e;cases hl;exact h
   ·exact hΓ.calls f' q' sp' hl}
end
def Ty.plain:Ty->Bool
 |.err|.gG=>false
 |.prod a b=>a.plain&&b.plain
 |.slice e=>e.plain
 |_=>true
def Ty.low:Ty->Bool
 |.slice e=>ao 0 e.size&&e.low
 |.prod a b=>a.low&&b.low
 |_=>true
section
variable{H:Type}{enc:TypeId×Value->H}{P:Program}{w:World}{base:Nat}{sp:Nat->Bool}{held:Bool}{eT:TypeId}
def Fit.cellsOf{t:TypeId}{ty:Ty}{i:TypeInfo}{d:TypeDesc}(h:Fit P t ty i d):P.cellsOf t=ty.size:=by
 unfold Program.cellsOf;rw[h.info];exact h.size
def J8{f:TypeId->Ty->Bool}{cs:List Value}{fuel:Nat}
  (ih:∀t ty,f t ty=true->P.cellsOf t=ty.size/\∀us d ps,ty.plain=true->ty.low=true->bd enc P w base sp held fuel t us=some (d,ps)->∃x,R eT ty x lX w us) :
  ∀(gs:List Field) (off:Nat) (ty:Ty) (xs:List (DataW H×List MemPlace)),dY f gs off ty=true->ty.plain=true->ty.low=true->
   gs.mapM (fun f=>bd enc P w base sp held fuel f.type ((cs.drop f.offset).take (P.cellsOf f.type)))=some xs->cs.length=off+ty.size->∃x,R eT ty x lX w (cs.drop off):=by
 intro gs;induction gs with
 |nil=>
  intro off ty xs h hp hs hm hl;cases ty <;> simp[dY]at h;refine⟨(),?_⟩;show cs.drop off=[];exact List.drop_eq_nil_of_le (by simp[Ty.size]at hl;omega)
 |cons g gs ihg=>
  intro off ty xs h hp hs hm hl;cases ty <;> simp[dY]at h;rename_i a b;obtain⟨⟨⟨h1,h2⟩,h3⟩,h4⟩:=h;simp only[Ty.plain,ae]at hp;simp only[Ty.size]at hl;rw[de]at hm;obtain⟨k1,k2⟩:=ih _ _ h2;subst h1;rw[k1]at hm;cases hx:bd enc P w base sp held fuel g.type ((cs.drop g.offset).take a.size)with
  |none=>simp[hx]at hm
  |some y=>
   cases hxs:gs.mapM (fun f=>bd enc P w base sp held fuel f.type ((cs.drop f.offset).take (P.cellsOf f.type)))with
   |none=>simp[hx,hxs]at hm
   |some ys=>
    simp only[Ty.low,ae]at hs;obtain⟨x,rx⟩:=k2 _ y.1 y.2 hp.1 hs.1 hx;obtain⟨z,rz⟩:=ihg _ _ _ h4 hp.2 hs.2 hxs (by omega);refine⟨(x,z),_,_,?_,rx,rz⟩;rw[<-List.drop_drop,List.take_append_drop]
def MR:∀(n:Nat) (t:TypeId) (ty:Ty),fits P n t ty=true->P.cellsOf t=ty.size/\∀fuel us d ps,ty.plain=true->ty.low=true->
  bd enc P w base sp held fuel t us=some (d,ps)->∃x,R eT ty x lX w us:=by
 intro n;induction n with
 |zero=>intro t ty h;simp[fits]at h
 |succ n ih=>
  intro t ty h;obtain⟨m,i,dsc,hm,fit,hsh⟩:=kY h;cases hm;refine⟨fit.cellsOf,fun fuel us d ps hp hs hd =>?_⟩;cases fuel with
  |zero=>simp[bd]at hd
  |succ fuel=>
   unfold bd at hd;rw[fit.iC]at hd;cases ty with
   |bool=>
    cases dsc <;> simp[cA]at hsh;split at hd
    case h_1 _ _ b _=>exact⟨b,rfl⟩
    all_goals simp_all
   |int k=>
    cases dsc <;> simp[cA]at hsh;subst hsh;split at hd
    case h_2 _ _ k1 k2 x h0=>
     cases h0;split at hd
     ·rename_i h1
      obtain⟨rfl,h1⟩:=h1;simp only[Lit.wf,ae,decide_eq_true_eq]at h1;exact⟨x,rfl,h1⟩
     ·cases hd
    all_goals simp_all
   |str=>
    cases dsc <;> simp[cA]at hsh;split at hd
    case h_4 _ _ s _=>
     split at hd
     ·rename_i h1
      refine⟨s.data.toList,?_,?_⟩
      ·rw[dh]
      ·unfold maxLen at h1
       unfold aM;rw[b8];exact h1
     ·cases hd
    all_goals simp_all
   |err=>simp[Ty.plain]at hp
   |gG=>simp[Ty.plain]at hp
   |unit=>
    cases dsc <;> simp[cA]at hsh;rename_i fs;simp only at hd;split at hd
    ·rename_i hl
     rw[fit.cellsOf]at hl;refine⟨(),?_⟩;exact dr.1 hl
    ·cases hd
   |prod a b=>
    cases dsc <;> simp[cA]at hsh;rename_i fs;simp only at hd;split at hd
    ·rename_i hl
     rw[fit.cellsOf]at hl;cases hxs:fs.toList.mapM (fun f=>bd enc P w base sp held fuel f.type ((us.drop f.offset).take (P.cellsOf f.type)))with
     |none=>rw[hxs]at hd;simp at hd
     |some xs=>
      obtain⟨x,hx⟩:=J8 (fun t ty hf=>⟨(ih t ty hf).1,(ih t ty hf).2 fuel⟩) _ _ _ _ hsh hp hs hxs (by omega);exact⟨x,by simpa using hx⟩
    ·cases hd
   |slice e=>
    cases dsc <;> simp[cA]at hsh;rename_i te;simp only[Ty.low,ae]at hs;have hpos:=mg hs.1;obtain⟨hce,hel⟩:=ih te e hsh;split at hd
    case h_7=>exact⟨[],_,rfl,by simp[aM],.inl ⟨rfl,_,_,rfl⟩⟩
    case h_8 _ _ te' b l c h0=>
     cases h0;simp only at hd;split at hd
     case isFalse=>cases hd
     rename_i hcond;obtain⟨hb,hlc,hcm⟩:=hcond;obtain⟨es,hes,_⟩:=di.1 hd;rw[hce]at hes;have hlen:=mapM_some_length hes;simp only[List.length_range]at hlen;by_cases hl0:l=0
     ·subst hl0
      exact⟨[],_,rfl,by simp[aM],.inl ⟨rfl,_,_,rfl⟩⟩
     have hspot:b.spot=none:=by
      have h1:=mapM_some_get hes 0 0 (by rw[List.getElem?_range (by omega)]);rw[List.getElem?_eq_getElem (by omega)]at h1;obtain⟨us,hu,hd1⟩:=di.1 h1;obtain⟨_,q1,q2⟩:=World.cells?_some hu;have q3:=q2 0 hpos;rw[List.getElem?_eq_getElem (by omega)]at q3;have e0:(b.add (0*e.size)).add 0=b:=by simp[Addr.add]
      rw[e0]at q3;unfold World.cell? at q3;split at q3
      ·cases hb0:b.spot with
       |none=>rfl
       |some k=>rw[hb0]at q3;simp at q3
      ·cases q3
     obtain⟨bb,oo,so⟩:=b;simp only at hspot;subst hspot;have hget:∀i,i<l->∃x us,R eT e x lX w us/\Row lX w bb (oo+i*e.size) us:=by
      intro i hi;have h1:=mapM_some_get hes i i (by simp[hi]);rw[List.getElem?_eq_getElem (by omega)]at h1;obtain⟨us,hu,hd1⟩:=di.1 h1;obtain⟨_,q1,q2⟩:=World.cells?_some hu;obtain⟨x,hx⟩:=hel fuel us (es[i]'(by omega)).1 (es[i]'(by omega)).2 hp hs.2 hd1;refine⟨x,us,hx,fun j u hj=>⟨?_,id⟩⟩;have hjl:j<us.length:=by
       rcases a7 j us.length with h|h
       ·exact h
       ·rw[List.getElem?_eq_none h]at hj;cases hj
      have:=q2 j (by omega);rw[bt,bt]at this;rw[this,hj]
     let xs:List (D e):=(bz l).map fun i=>if h:i<l then(hget i h).choose else bY e
     have hxl:xs.length=l:=by simp[xs]
     have hxi:∀i y,xs[i]?=some y->∃us,R eT e y lX w us/\Row lX w bb (oo+i*e.size) us:=by
      intro i y hy;have hi:i<l:=by
       rcases a7 i l with h|h
       ·exact h
       ·rw[List.getElem?_eq_none (by omega)]at hy;cases hy
      have:xs[i]?=some (hget i hi).choose:=by simp[xs,hi]
      rw[this]at hy;cases hy;exact(hget i hi).choose_spec
     refine⟨xs,_,rfl,?_,.inr ⟨bb,oo,c,?_,?_,hxi⟩⟩
     ·rw[hxl];unfold maxLen at hcm;unfold aM;omega
     ·rw[hxl]
     ·rw[hxl];exact hlc
    all_goals simp_all
def SP{n:Nat}{t:TypeId}{ty:Ty}(hf:fits P n t ty=true)(hp:ty.plain=true)(hlow:ty.low=true){r:Reach}{b:Nat}{v:Value}(hval:cm P w r b t v){d:DataW H}{ps:List MemPlace}
  (hd:DataW.Trod enc P w base sp held t v d ps):∃x,VR eT ty x lX w v:=by
 obtain⟨m,i,dsc,hm,fit,hsh⟩:=kY hf;obtain⟨fuel,hd⟩:=hd;have key:∃x,R eT ty x lX w v.cells.toList:=(MR (eT:=eT) n t ty hf).2 fuel _ _ _ hp hlow hd
 unfold cm at hval;rw[fit.iC]at hval;have one:ty.one=true->b4 P w r b t v->(v.cells.toList=[v])->∃x,VR eT ty x lX w v:=by
  intro h1 h2 h3;rw[h3]at key;obtain⟨x,hx⟩:=key;exact⟨x,VR.cI h1 hx⟩
 have agg:ty.one=false->(∃cs,v=.agg cs/\cs.size=P.cellsOf t/\Row.okWide P w r b t cs)->∃x,VR eT ty x lX w v:=by
  rintro h1 ⟨cs,rfl,_,ts,_,_,h2⟩;obtain⟨x,hx⟩:=key;refine⟨x,?_⟩;unfold VR;rw[if_neg (by simp[h1])];exact⟨cs,rfl,hx⟩
 cases ty with
 |err=>simp[Ty.plain]at hp
 |gG=>simp[Ty.plain]at hp
 |prod a b=>cases dsc <;> simp[cA]at hsh;exact agg rfl hval
 |unit=>cases dsc <;> simp[cA]at hsh;exact agg rfl hval
 |bool=>
  cases dsc <;> simp[cA]at hsh;refine one rfl hval ?_;cases v <;> simp[b4,cn,fit.iC,bw]at hval ⊢
 |int k=>
  cases dsc <;> simp[cA]at hsh;refine one rfl hval ?_;cases v <;> simp[b4,cn,fit.iC,bw]at hval ⊢
 |str=>
  cases dsc <;> simp[cA]at hsh;refine one rfl hval ?_;cases v <;> simp[b4,cn,fit.iC,bw]at hval ⊢
 |slice e=>
  cases dsc <;> simp[cA]at hsh;refine one rfl hval ?_;cases v <;> simp[b4,cn,fit.iC,bw]at hval ⊢
def uh(P:Program)(n:Nat):List TypeId->List Ty->Bool
 |[],[]=>true
 |t :: ts,ty :: tys=>fits P n t ty&&ty.plain&&ty.low&&uh P n ts tys
 |_,_=>false
def Pr{n:Nat}{r:Reach}{b:Nat}:∀(ts:List TypeId) (tys:List Ty) (vs:List Value) (ds:List (DataW H)) (ps:List MemPlace),uh P n ts tys=true->
  (∀(j:Nat) t v,ts[j]?=some t->vs[j]?=some v->cm P w r b t v)->bf enc P w base sp held ts vs ds ps->∃xs,lW eT lX w tys xs vs:=by
 intro ts;induction ts with
 |nil=>
  intro tys vs ds ps hf hv h;cases tys <;> simp[uh]at hf;cases vs <;> cases ds <;> simp[bf]at h;exact⟨(),rfl⟩
 |cons t ts ih=>
  intro tys vs ds ps hf hv h;cases tys <;> simp[uh]at hf;rename_i ty tys;obtain⟨⟨⟨h1,h2⟩,h3⟩,h4⟩:=hf;cases vs <;> cases ds <;> simp[bf]at h;rename_i v vs d ds;obtain⟨p,hp,q,hq,_⟩:=h;obtain⟨x,hx⟩:=SP (eT:=eT) h1 h2 h3 (hv 0 t v rfl rfl) hp;obtain⟨xs,hxs⟩:=ih tys vs ds q h4 (fun j t' v' h1 h2=>hv (j+1) t' v' h1 h2) hq;cases tys with
  |nil=>exact⟨x,v,by rw[show vs=[]from hxs],hx⟩
  |cons ty' tys=>exact⟨(x,xs),v,vs,rfl,hx,hxs⟩
def MS(hl:laidOutB P=true){W W':World}(hb:Below W.heap.size W W'):∀(ts:List TypeId) (vs:List Value) (ds:List (DataW H)) (ps:List MemPlace),(ts.all fun t=>P.readableRec t&&ao t P.types.size)=true->
  bf enc P W 0 (fun _=>true) true ts vs ds ps->(∀x∈ps,x.block<W.heap.size)->bf enc P W' 0 (fun b=>decide (b<W.heap.size)) true ts vs ds ps:=by
 intro ts;induction ts with
 |nil=>intro vs ds ps _ h _;cases vs <;> cases ds <;> simp[bf]at h ⊢;exact h
 |cons t ts ih=>
  intro vs ds ps hr h hlt;simp only[db,ae]at hr;cases vs <;> cases ds <;> simp only[bf]at h ⊢;rename_i v vs d ds;obtain⟨p,q,hp,hq,rfl⟩:=h;exact⟨p,q,WideElems.Trod_stays hl hr.1.1 (mg hr.1.2) hp (fun x hx=>hb.same (hlt x (by simp[hx]))) (fun x hx=>by simpa using hlt x (by simp[hx])),ih vs ds q hr.2 hq (fun x hx=>hlt x (by simp[hx])),rfl⟩
def Hx:∀{ts:List TypeId} {vs:List Value} {ds:List (DataW H)} {ps:List MemPlace},bf enc P w base sp held ts vs ds ps->vs.length=ts.length/\ds.length=ts.length
 |[],[],[],_,_=>⟨rfl,rfl⟩
 |_ :: _,_ :: _,_ :: _,_,⟨_,_,_,h,_⟩=>by simp[Hx h]
def Ps{X:Ext}{C:Checked}{f:FuncId}{fn:Func}{s:ChangeSpec}{tys:List Ty}{pre:HL tys->Prop}(hs:s.vars=[])(hl:laidOutB C.prog=true)
  (hsp:∀ds:List (DataW H),ds.length=tys.length->s.fn H ds= {results:=[.lit (.bool true)],args:=ds})
  {n:Nat}(hf:uh C.prog n fn.params.toList tys=true)(hr:(fn.params.toList.all fun t=>C.prog.readableRec t&&ao t C.prog.types.size)=true)
  {tb:TypeId}(hres:fn.resultTypes= #[tb])(hb:C.prog.underlying tb=some .bool)
  (h:bW C.prog eT X f tys [.bool] pre (fun _ y=>y=true))
  {W:World}{base:Nat}{args:Array Value}{ds gs:List (DataW H)}{before:List MemPlace}
  (hval:∀(j:Nat) t v,fn.params[j]?=some t->args[j]?=some v->cm C.prog W .any base t v)
  (hW:DataW.Whole enc C.prog fn.params.toList s.vars false W args.toList ds gs before)
  (hG:X.wm W)(hpre:∀xs,lW eT lX W tys xs args.toList->pre xs) :
  Calls C.prog f args W fun e W'=>∃v,e=.returned v/\s.post enc C.prog fn false true false false W args v W':=by
 have hW0:=hW;obtain⟨p,q,hA,hV,rfl,_,_⟩:=hW;rw[hs]at hV;obtain⟨rfl,rfl⟩:gs=[]/\q=[]:=by cases gs <;> simp[DataW.TrodVars]at hV;exact⟨rfl,hV⟩
 obtain⟨xs,hxs⟩:=Pr (eT:=eT) _ _ _ _ _ hf (fun j t v h1 h2=>hval j t v (by rw[<-Array.getElem?_toList];exact h1) (by rw[<-Array.getElem?_toList];exact h2)) hA;have:=h.ok lX W xs args.toList hG (fun _ _ h=>h.elim) hxs (hpre xs hxs);rw[dh]at this;refine this.mono ?_;rintro e W' ⟨us,ys,rfl,rfl,hr',hbel⟩;obtain⟨u,rfl,hu⟩:=hr';have hu:u=.bool true:=by
  have:=VR.one rfl hu;simpa[R]using this
 subst hu;have hlen:ds.length=tys.length:=by
  have h1:=hxs.length;have h2:=Hx hA;omega
 simp only[cp]at hW0 ⊢;have hlt:∀x∈p,x.block<W.heap.size:=hW0.lt
 refine⟨_,rfl,ds,[],p,[],p,[],hW0,?_,?_,?_,hbel.frame _,fun hh=>by cases hh⟩
 ·rw[cp,hsp ds hlen,hres]
  exact⟨[],[],shut_bool hb true,rfl,rfl⟩
 ·rw[cp,hsp ds hlen]
  exact MS hl hbel _ _ _ _ hr hA hlt
 ·rw[cp,hsp ds hlen,hs]
  rfl
end
def holds_of{v:VC}{p:Prop}(e:v.holds=p)(h:p):v.holds:=by rw[e];exact h
section
variable{A B:Prop}
theorem iD{p:Prop}[Decidable p](f:p->A)(g:¬p->B):(decide p=true->A)/\(decide p=false->B):=⟨fun h=>f (of_decide_eq_true h),fun h=>g (of_decide_eq_false h)⟩
def iL{a b:Int}(f:a<b->A)(g:b<=a->B):(decide (a<b)=true->A)/\(decide (a<b)=false->B):=iD f fun h=>g (Int.not_lt.1 h)
def iE{a b:Int}(f:a<=b->A)(g:b<a->B):(decide (a<=b)=true->A)/\(decide (a<=b)=false->B):=iD f fun h=>g (Int.not_le.1 h)
def iB{b:Bool}(f:b=false->A)(g:b=true->B):((!b)=true->A)/\((!b)=false->B):=⟨fun h=>f (bc b▸h),fun h=>g (Bool.not_eq_false' b▸h)⟩
theorem iQ{α:Type}[BEq α][LawfulBEq α]{a b:α}(f:a=b->A)(g:¬a=b->B):((a == b)=true->A)/\((a == b)=false->B):=⟨fun h=>f (eq_of_beq h),fun h=>g fun e=>by rw[e,beq_self_eq_true]at h;cases h⟩
theorem iN{α:Type}[BEq α][LawfulBEq α]{a b:α}(f:¬a=b->A)(g:a=b->B):((a != b)=true->A)/\((a != b)=false->B):=
 ⟨fun h=>f fun e=>(by rw[e,bne_self_eq_false]at h;cases h),fun h=>g (by simpa using h)⟩
end
def Xs:Ext where
 rel k t x l w:=match k with
  |0=>kI t x l w
  |1=>tq t x l w
  |2=>uF t x l w
  |_=>False
 inside {k t x l w} h:=by
  match k,h with
  |0,h=>exact kI.inside h
  |1,h=>exact tq.inside h
  |2,h=>exact uF.inside h
 ptr {k t x l w} hk h:=by
  match k,hk,h with
  |0,hk,_=>omega
  |1,hk,_=>omega
  |2,_,h=>obtain⟨rfl,b,p,v,h⟩:=h;exact⟨_,h.lv⟩
 deep:=Iff.rfl
 map:=Iff.rfl
 OO:=Iff.rfl
 frame {k t x l w w'} h hb:=by
  match k,h with
  |0,h=>exact kI.frame h hb
  |1,h=>exact tq.frame h hb
  |2,h=>exact uF.frame h hb
 wm _:=True
 D6:=[]
 GJ _ _ hb:=by cases hb
 Bz _ _:=trivial
def codeOf(fn:Func):Code:=fn.body.getD .skip
def dL(B:Cx)(Γ:List (FuncId×(Bool×aT)))(fn:Func)(anns:dX)(ts rts:List Ty)(post:HL ts->HL rts->Prop)(xs:HL ts):VC:=
 Lr B Γ fn.ntmps anns fn.results.toList (codeOf fn) ts rts post xs
def py(fn:Func)(n:Nat):Bool:=fn.body.isSome&&!(fn.name == "runtime.NumGoroutine")&&Nat.ble n fn.ntmps
def bP(P:Program)(B:Cx)(X:Ext)(Γ:List (FuncId×(Bool×aT))):Prop:=∀N,lu P (q8 B Γ N) X
section
variable{P:Program}{B:Cx}{X:Ext}{Γ:List (FuncId×(Bool×aT))}
def cD{f:FuncId}{fn:Func}{ts rts:List Ty}{pre:HL ts->Prop}{post:HL ts->HL rts->Prop}(hok:bP P B X Γ)(hf:P.funcs[f]?=some fn)(hc:py fn ts.length=true)
  (anns:HL ts->dX)(h:∀xs,gM ts xs->pre xs->(dL B Γ fn (anns xs) ts rts post xs).holds):bW P B.eT X f ts rts pre post:=by
 simp only[py,ae,bc]at hc;obtain⟨⟨h1,h2⟩,h3⟩:=hc;refine MP (hok fn.ntmps) hf (c:=codeOf fn) ?_ h2 rfl anns (dd h3) h;unfold codeOf;cases hb:fn.body with
 |none=>rw[hb]at h1;cases h1
 |some c=>rfl
def bR(h:TyOK P B):bP P B X []:=fun _=>Vp h
def aO{f:FuncId}{q:Bool}{sp:aT}(h:bX P B.eT X f q sp)(hΓ:bP P B X Γ):bP P B X ((f,q,sp) :: Γ):=fun N=>SO h (hΓ N)
def nF(B:Cx)(l:List Nat):Cx:={B with hint:=l}
def bP.hint{l:List Nat}(h:bP P B X Γ):bP P (nF B l) X Γ:=fun N=>
 {fit:=(h N).fit,ox:=(h N).ox,kK:=(h N).kK,mixed:=(h N).mixed,arr:=(h N).arr,uH:=(h N).uH,eqs:=(h N).eqs,oK:=(h N).oK,qE:=(h N).qE,sG:=(h N).sG,calls:=(h N).calls}
def MT(B:Cx):Cx:={B with wr:=true}
def bP.wrap(h:bP P B X Γ):bP P (MT B) X Γ:=fun N=>
 {fit:=(h N).fit,ox:=(h N).ox,kK:=(h N).kK,mixed:=(h N).mixed,arr:=(h N).arr,uH:=(h N).uH,eqs:=(h N).eqs,oK:=(h N).oK,qE:=(h N).qE,sG:=(h N).sG,calls:=(h N).calls}
def sa{α:Type}{l:List (Nat×α)}{n:Nat}{x:α}(h:look l n=some x):(n,x)∈l:=by
 induction l with
 |nil=>cases h
 |cons p r ih=>
  obtain⟨m,y⟩:=p;rw[cF]at h;split at h
  ·rename_i e;subst e;cases h;simp
  ·exact List.mem_cons_of_mem _ (ih h)
def Pu(P:Program)(B:Cx)(n:Nat):Bool:=
 (B.τ.all fun p=>fits P n p.1 p.2)&&
 (match P.underlying B.eT with|some (.int .i64)=>true|_=>false)&&
 (match P.info? B.eT with|some i=>(match i.zero with|some (.int .i64 0)=>true|_=>false)|none=>false)&&
 P.follows .mixedOrders&&
 (B.Ap.all fun p=>match P.underlying p.1 with|some (.array m e)=>ab m p.2.1&&ab e p.2.2|_=>false)&&
 (B.Ap.all fun p=>match look B.τ p.2.2 with
  |some e=>(match P.info? p.1 with
   |some i=>(match i.zero with
    |some z=>pV e p.2.1 z.cells.toList
    |none=>false)
   |none=>false)
  |none=>true)&&
 B.eqs.all (Mr P)&&B.oK.all (GP P)&&
 (B.qE.all fun p=>match P.underlying p.1 with
  |some (.map k e)=>ab k p.2.1&&ab e p.2.2&&(match P.underlying p.2.1 with|some .string=>true|_=>false)&&
   (match P.info? p.2.2 with
    |some i=>(match i.zero with|some (.agg _)=>true|_=>false)
    |none=>false)
  |_=>false)&&
 (B.sG.all fun p=>match P.info? p.1 with
  |some i=>(match i.zero with
   |some (.agg cs)=>(match cs.toList with
    |[.pointer none,.slice none 0 0]=>true
    |_=>false)
   |_=>false)
  |none=>false)
def Vq{n:Nat}(h:Pu P B n=true):TyOK P B:=by
 simp only[Pu,ae,b3]at h;obtain⟨⟨⟨⟨⟨⟨⟨⟨⟨h1,h2⟩,h3⟩,h4⟩,h5⟩,h6⟩,h7⟩,h8⟩,h9⟩,h10⟩:=h;refine⟨fun t ty hl=>⟨n,h1 _ (sa hl)⟩,?_,?_,h4,fun t ht=>h7 t (uY ht),fun t ht=>h8 t (uY ht),fun t m e hl =>?_,fun t k e hl =>?_,fun t e hl =>?_,fun t m te e hl he =>?_⟩
 ·split at h2
  ·assumption
  ·cases h2
 ·split at h3
  ·rename_i i hi
   refine⟨i,hi,?_⟩;split at h3
   ·assumption
   ·cases h3
  ·cases h3
 ·have:=h5 _ (sa hl)
  simp only at this;split at this
  ·rename_i m' e' hu
   simp only[ae]at this;rw[hu,ag this.1,ag this.2]
  ·cases this
 ·have:=h9 _ (sa hl)
  simp only at this;split at this
  ·rename_i k' e' hu
   simp only[ae]at this;obtain⟨⟨⟨e1,e2⟩,e3⟩,e4⟩:=this;rw[hu,ag e1,ag e2];refine⟨rfl,?_,?_⟩
   ·split at e3
    ·assumption
    ·cases e3
   ·split at e4
    ·rename_i i hi
     split at e4
     ·rename_i cs hz;exact⟨i,cs,hi,hz⟩
     ·cases e4
    ·cases e4
  ·cases this
 ·have:=h10 _ (sa hl)
  simp only at this;split at this
  ·rename_i i hi
   split at this
   ·rename_i cs hz
    split at this
    ·rename_i hr
     exact⟨i,hi,by rw[hz];congr 2;exact aj.1 hr⟩
    ·cases this
   ·cases this
  ·cases this
 ·have:=h6 _ (sa hl)
  simp only[he]at this;split at this
  ·rename_i i hi
   split at this
   ·rename_i z hz
    exact⟨i,z,hi,hz,this⟩
   ·cases this
  ·cases this
end
def p8:Nat->List cO->List (Nat×SV)
 |_,[]=>[]
 |k,a :: r=>(k,.s a) :: p8 (k+1) r
def gz(B:Cx)(Γ:List (FuncId×(Bool×aT)))(fn:Func)(anns:dX):aT:=fun args st K=>
 match Nat.ble args.length fn.ntmps with
 |true=>MO (q8 B Γ fn.ntmps) anns fn.results.toList (codeOf fn) {env:=p8 0 args,aF:=st.aF,next:=st.next} fun vs st'=>K (sU vs) {st' with env:=st.env}
 |false =>.ff
def tE{eT:TypeId}{S:bI}:∀{args:List cO} {vs:List Value} (k:Nat),cQ eT S args vs->∀t sv,look (p8 k args) t=some sv->k<=t/\∃v,vs[t-k]?=some v/\dO eT S sv v:=by
 intro args;induction args with
 |nil=>intro vs k _ t sv h;simp[p8,look]at h
 |cons a r ih=>
  intro vs k hr t sv h;cases hr with
  |cons h1 h2=>
   simp only[p8,cF]at h;split at h
   ·rename_i e
    cases h;subst e;exact⟨ai _,_,by simp,h1⟩
   ·rename_i e
    obtain⟨k1,v,k2,k3⟩:=ih (k+1) h2 t sv h;refine⟨by omega,v,?_,k3⟩;rw[show t-k=(t-(k+1))+1 by omega];simpa using k2
def eV{P:Program}{B:Cx}{X:Ext}{Γ:List (FuncId×(Bool×aT))}(hok:bP P B X Γ){f:FuncId}{fn:Func}(hf:P.funcs[f]?=some fn)(hg:py fn 0=true)(anns:dX) :
  bX P B.eT X f false (gz B Γ fn anns):=by
 simp only[py,ae,bc]at hg;obtain⟨⟨h1,h2⟩,_⟩:=hg;obtain⟨c,hc⟩:=Option.isSome_iff_exists.1 h1;refine⟨⟨fn,hf,by rw[hc];rfl,h2⟩,fun O st loc w args vs K hK g hO ha =>?_⟩;unfold gz at hK;split at hK
 case h_2=>exact hK.elim
 rename_i hlen;have hlen:=dd hlen;have hcode:codeOf fn=c:=by unfold codeOf;rw[hc];rfl
 rw[hcode]at hK;have:=tD (X:=X) (hok fn.ntmps) hf hc (by rfl) anns (O:=O) (loc:=loc) (w:=w) (args:=vs.toArray)
  (st:={env:=p8 0 args,aF:=st.aF,next:=st.next}) (by rw[bu,<-ha.len];exact hlen) g hO
  (fun t sv h=>by
   obtain⟨_,v,k1,k2⟩:=tE 0 ha t sv h;exact⟨v,by simpa using k1,k2⟩) hK
 refine this.mono ?_;rintro e w' ⟨rs,us,st',loc',he,hk,hr,g',tr⟩;exact⟨_,_,_,loc',he,hk,rfl,(fun h=>by cases h),g',tr,w4 hr⟩
def MU(st:St)(t k:Nat):Nat:=
 match look st.env t with
 |some (.s (.one (.fn _ caps)))=>caps.getD k 0
 |_=>0
def SQ(ty:Ty)(st:St)(n:Nat):D ty:=
 match look st.aF n with
 |some (.cells _ cs)=>match mG ty cs with
  |some (x,_)=>x
  |none=>bY ty
 |_=>bY ty
end Go.Vg

