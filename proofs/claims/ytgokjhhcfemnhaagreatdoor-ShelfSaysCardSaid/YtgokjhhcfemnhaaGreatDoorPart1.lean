/- A part of the proof that the law ShelfSaysCard holds of the given program: facts that are used there. -/
import Derived.Test.YtgokjhhcfemnhaaGreatDoorPart0
import Derived.Maps.RangeRun
import Derived.Laws.BytesString
import Derived.Lib.ConvBytes
set_option linter.unusedSimpArgs false
set_option linter.unusedVariables false
namespace Go.Vg
open Go.RowKit
def EZ (n:Nat) (e:Ty) (xs:List (D e)):C:=
 match n with
 | 0 => .emp
 | _ => .d (.slice e) xs
def ml (cx:Cx) (st:St) (t:TypeId) (n:Nat) (parts:List (Nat × Operand)) (K:C->VC):VC:=
 match look cx.τ t with
 | some (.slice e)=>match l5 0 parts && (Nat.beq parts.length n && (Nat.ble (n * e.size) 16777216 && Nat.ble n 1000000)),jq e (parts.map fun p=>lL st.env p.2) with
  | true,some xs=>K (EZ n e xs)
  | _,_ => .ff
 | _ => .ff
def oG (cx:Cx) (st:St) (t:TypeId) (n:Nat) (parts:List (Nat × Operand)) (K:SV->St->VC):VC:=
 match look cx.τ t with
 | some (.slice e)=>match l5 0 parts && (Nat.beq parts.length n && (Nat.ble (n * e.size) 16777216 && Nat.ble n 1000000)),jq e (parts.map fun p=>lL st.env p.2) with
  | true,some xs=>K (.s (.one (.app e xs (st.next + 1)))) (fresh (aA (fresh st (.ax e xs)) st.next) (.tok e xs))
  | _,_ => .ff
 | _ => .ff
def nx (cx:Cx) (st:St) (t:TypeId) (l c:C) (K:SV->St->VC):VC:=
 match look cx.τ t,mi l,mi c with
 | some (.slice e),some n,some m=>match kQ e with
  | true => .and (0<=n/\m=n/\n<=1000000000) (K (.s (.one (.ax st.next))) (fresh st (.ax e (List.replicate n.toNat (bp e)))))
  | false => .ff
 | _,_,_ => .ff
section
variable {X:Ext} {P:Program} {cx:Cx}
theorem uc {eT:TypeId} {A:ah} {w:World}:∀{ty:Ty} {vs:List Value},ch ty vs=true->kQ ty=true->R eT ty (bp ty) A w vs:=by
 intro ty
 induction ty with
 | prod a b iha ihb=>
  intro vs h hn
  simp only [ch,Bool.and_eq_true] at h
  simp only [kQ,Bool.and_eq_true] at hn
  exact ⟨_,_,(List.take_append_drop a.size vs).symm,iha h.1 hn.1,ihb h.2 hn.2⟩
 | unit=>intro vs h _;cases vs <;> simp [ch] at h;rfl
 | bool=>
  intro vs h _
  match vs,h with
  | [v],h=>cases v <;> simp [ch,Ty.one,zeroCell] at h;subst h;rfl
 | int k=>
  intro vs h _
  match vs,h with
  | [v],h=>
   cases v <;> simp [ch,Ty.one,zeroCell] at h
   obtain ⟨rfl,rfl⟩:=h
   exact ⟨rfl,by cases k <;> simp [bp,IntKind.min,IntKind.max,IntKind.signed,IntKind.bits]⟩
 | str=>
  intro vs h _
  match vs,h with
  | [v],h=>cases v <;> simp [ch,Ty.one,zeroCell] at h;subst h;exact ⟨rfl,by simp [bp]⟩
 | err=>
  intro vs h _
  match vs,h with
  | [v],h=>cases v <;> simp [ch,Ty.one,zeroCell] at h;exact ⟨_,rfl,rfl⟩
 | di=>intro vs h hn;simp [kQ] at hn
 | slice e _=>
  intro vs h _
  match vs,h with
  | [v],h=>
   cases v <;> simp [ch,Ty.one,zeroCell] at h
   rename_i a l c
   cases a <;> simp at h
   obtain ⟨rfl,rfl⟩:=h
   exact R.la
theorem yJ {eT:TypeId} {A:ah} {w:World} {e:Ty} (hno:kQ e=true):∀{n:Nat} {vs:List Value},ko e n vs=true->
  vs.length=n * e.size/\∀(i:Nat) (y:D e),(List.replicate n (bp e))[i]?=some y->∃us,R eT e y A w us/\∀j u,us[j]?=some u->vs[i * e.size + j]?=some u:=by
 intro n
 induction n with
 | zero=>
  intro vs h
  simp only [ko,List.isEmpty_iff] at h
  subst h
  exact ⟨by simp,fun i y hy=>by simp at hy⟩
 | succ n ih=>
  intro vs h
  simp only [ko,Bool.and_eq_true] at h
  obtain ⟨h1,h2⟩:=h
  have r0:=uc (eT:=eT) (A:=A) (w:=w) h1 hno
  have hl0:=r0.length
  obtain ⟨hl,hel⟩:=ih h2
  have hle:e.size<=vs.length:=by rw [List.length_take] at hl0;omega
  refine ⟨by rw [List.length_drop] at hl;rw [Nat.succ_mul];omega,fun i y hy => ?_⟩
  cases i with
  | zero=>
   simp only [List.replicate_succ,List.getElem?_cons_zero,Option.some.injEq] at hy
   subst hy
   refine ⟨_,r0,fun j u hj => ?_⟩
   rw [List.getElem?_take] at hj
   split at hj
   ·simpa using hj
   ·cases hj
  | succ i=>
   simp only [List.replicate_succ,List.getElem?_cons_succ] at hy
   obtain ⟨us,k1,k2⟩:=hel i y hy
   refine ⟨us,k1,fun j u hj => ?_⟩
   have:=k2 j u hj
   rw [List.getElem?_drop] at this
   rw [<-this]
   congr 1
   rw [Nat.succ_mul];omega
theorem yK (size:Nat):∀(pv:List (Nat × Value)) (k:Nat) (cells:Array Value),(∀i p,pv[i]?=some p->p.1=k + i)->(∀p∈pv,p.2.cells.size=size)->k * size + pv.length * size=cells.size->
  Instr.fill (fun i=>some (i * size,size)) cells pv=some (cells.toList.take (k * size)++(pv.map fun p=>p.2.cells.toList).flatten).toArray:=by
 intro pv
 induction pv with
 | nil=>
  intro k cells _ _ h
  simp only [Instr.fill,List.map_nil,List.flatten_nil,List.append_nil]
  rw [List.take_of_length_le (by simp at h ⊢;omega),Array.toArray_toList]
 | cons p pv ih=>
  intro k cells hi hs h
  obtain ⟨i,v⟩:=p
  have h0:i=k:=by simpa using hi 0 (i,v) rfl
  subst h0
  have hv:=hs (i,v) (by simp)
  simp only at hv
  simp only [List.length_cons,Nat.add_mul] at h
  rw [wB _ cells i (i * size) size v pv rfl hv (by omega)]
  have hvl:v.cells.toList.length=size:=by simpa using hv
  have e1:(cells.toList.take (i * size)++v.cells.toList++cells.toList.drop (i * size + v.cells.toList.length)).toArray.size=cells.size:=by
   simp only [List.size_toArray,List.length_append,List.length_take,List.length_drop,Array.length_toList,hvl]
   omega
  rw [ih (i + 1) _ (fun j p hp=>by have:=hi (j + 1) p (by simpa using hp);omega) (fun p hp=>hs p (by simp [hp])) (by rw [e1,Nat.add_mul];omega)]
  congr 2
  rw [List.map_cons,List.flatten_cons,<-List.append_assoc]
  congr 1
  have hl:(cells.toList.take (i * size)++v.cells.toList).length=(i + 1) * size:=by
   simp only [List.length_append,List.length_take,Array.length_toList,hvl,Nat.add_mul];omega
  rw [List.take_append_of_le_length (by omega),List.take_of_length_le (by omega)]
theorem yL {S:aH} {e:Ty}:∀{l:List aZ} {us:List Value} {xs:List (D e)},jq e l=some xs->bc cx.eT S l us->
  xs.length=l.length/\(∀u∈us,u.cells.size=e.size)/\cE cx.eT e xs S.A S.w (us.map fun u=>u.cells.toList).flatten:=by
 intro l
 induction l with
 | nil=>intro us xs h hr;cases hr;simp [jq] at h;subst h;exact ⟨rfl,by simp,fun i y hy=>by simp at hy⟩
 | cons v l ih=>
  intro us xs h hr
  cases hr with
  | cons h1 h2=>
   rename_i u us
   simp only [jq] at h
   split at h
   ·rename_i x xs' hx hxs
    cases h
    obtain ⟨k1,k2,k3⟩:=ih hxs h2
    have hvr:=VR.cells (fP hx h1)
    refine ⟨by simp [k1],fun u' hu' => ?_,?_⟩
    ·rcases List.mem_cons.1 hu' with rfl | hu'
     ·rw [<-Array.length_toList,hvr.length]
     ·exact k2 _ hu'
    ·rw [List.map_cons,List.flatten_cons]
     exact cE.cons hvr k3
   ·cases h
theorem Cn {S:aH} {env:List (Nat × SV)} {a:Act} (he:cJ cx.eT S env a):∀(ps:List (Nat × Operand)),bc cx.eT S (ps.map fun p=>lL env p.2) (ps.map fun p=>a.eval p.2)
 | [] => .nil
 | p :: ps => .cons (fv he p.2) (Cn he ps)
theorem Bv:∀{ps:List (Nat × Operand)} {k:Nat},l5 k ps=true->∀i p,ps[i]?=some p->p.1=k + i:=by
 intro ps
 induction ps with
 | nil=>intro k _ i p h;simp at h
 | cons q ps ih=>
  intro k h i p hp
  obtain ⟨j,x⟩:=q
  simp only [l5,Bool.and_eq_true] at h
  cases i with
  | zero=>simp at hp;subst hp;exact Nat.eq_of_beq_eq_true h.1
  | succ i=>have:=ih h.2 i p (by simpa using hp);omega
theorem wD {O:ah} {st:St} {loc:Nat->Loc} {w:World} {a:Act} (he:cJ cx.eT (ae O st loc w) st.env a)
  {t te:TypeId} {ti:TypeInfo} {td:TypeDesc} {e:Ty} {n:Nat} {parts:Array (Nat × Operand)} {xs:List (D e)} (hu:P.underlying t=some (.slice te)) (hf:Fit P te e ti td) {z:Value} (hz:ti.zero=some z)
  (hzr:ch e z.cells.toList=true)
  (hc:(l5 0 parts.toList && (Nat.beq parts.toList.length n && (Nat.ble (n * e.size) 16777216 && Nat.ble n 1000000)))=true) (hd:jq e (parts.toList.map fun p=>lL st.env p.2)=some xs) :
  ∃flat:List Value,xs.length=n/\n<=1000000/\flat.length=n * e.size/\cE cx.eT e xs (ae O st loc w).A w flat/\
   (Instr.buildSlice t n (parts.map fun (i,x)=>(i,a.eval x))).run P w = .ok (.slice (some ⟨w.heap.size,0,none⟩) n n) (w.alloc (.cells flat.toArray te)):=by
 simp only [Bool.and_eq_true] at hc
 obtain ⟨hio,hn,hsz,hbig⟩:=hc
 have hn:=Nat.eq_of_beq_eq_true hn
 have hsz:=Nat.le_of_ble_eq_true hsz
 have hbig:=Nat.le_of_ble_eq_true hbig
 obtain ⟨k1,k2,k3⟩:=yL (cx:=cx) hd (Cn he parts.toList)
 have hxl:xs.length=n:=by rw [k1,List.length_map,hn]
 have hpl:(parts.map fun (i,x)=>(i,a.eval x)).toList=parts.toList.map fun p=>(p.1,a.eval p.2):=by simp
 have hzs:z.cells.size=e.size:=by rw [<-Array.length_toList];exact (fh (S:=ae O st loc w) (cx:=cx) hzr).length.symm.trans (dC e)
 generalize hflat:((parts.toList.map fun p=>a.eval p.2).map fun u=>u.cells.toList).flatten=flat at k3
 have hflen:flat.length=n * e.size:=by
  rw [<-hflat,<-hn]
  generalize parts.toList=l at k2
  clear hflat hpl hn hio hd k1 k3
  induction l with
  | nil=>simp
  | cons p l ih=>
   simp only [List.map_cons,List.flatten_cons,List.length_append,Array.length_toList,List.length_cons,Nat.add_mul]
   rw [ih (fun u hu=>k2 u (by simp only [List.map_cons,List.mem_cons];exact .inr hu)),k2 (a.eval p.2) (by simp)]
   omega
 have hfill:∀cells:Array Value,cells.size=n * e.size->Instr.fill (fun i=>some (i * e.size,e.size)) cells (parts.toList.map fun p=>(p.1,a.eval p.2))=some flat.toArray:=by
  intro cells hcs
  rw [yK e.size _ 0 cells (fun i p hp=>by
    rw [List.getElem?_map] at hp
    cases hq:parts.toList[i]? with
    | none=>rw [hq] at hp;cases hp
    | some q=>rw [hq] at hp;cases hp;exact Bv hio i q hq)
   (fun p hp=>by
    obtain ⟨q,hq,rfl⟩:=List.mem_map.1 hp
    exact k2 _ (List.mem_map.2 ⟨q,hq,rfl⟩))
   (by simp [hn,hcs])]
  simp only [Nat.zero_mul,List.take_zero,List.nil_append]
  rw [<-hflat]
  simp [List.map_map,Function.comp_def]
 refine ⟨flat,hxl,hbig,hflen,k3,?_⟩
 have hsz':¬ (n * e.size > 2 ^ 24):=by omega
 by_cases h0:n * e.size=0
 ·simp [Instr.buildSlice,run_underlying hu,cD hf,h0,newRow]
  rw [hfill _ (by rw [h0];simp)]
  simp
 ·have:=hfill ((Array.range (n * e.size)).map fun k=>z.cells[k % z.cells.size]!) (by simp)
  simp [Instr.buildSlice,run_underlying hu,cD hf,h0,hsz',newRow,zeroValue,typeInfo,hf.info,hz]
  rw [this]
  simp
theorem qa (hok:TyOK P cx) {O:ah} {st:St} {loc:Nat->Loc} {w:World} {a:Act} (g:Good cx.eT X (ae O st loc w)) (hO:bZ O w) (he:cJ cx.eT (ae O st loc w) st.env a)
  {t:TypeId} {n:Nat} {parts:Array (Nat × Operand)} {K:C->VC} (h:(ml cx st t n parts.toList K).holds) :
  ∃c v w',(K c).holds/\Below w.heap.size w w'/\Good cx.eT X (ae O st loc w')/\Tr (ae O st loc w) (ae O st loc w')/\CR cx.eT (ae O st loc w') c v/\(Instr.buildSlice t n (parts.map fun (i,x)=>(i,a.eval x))).run P w = .ok v w':=by
 unfold ml at h
 split at h
 ·rename_i e ht
  obtain ⟨te,ti,td,hu,hf⟩:=cX hok ht
  obtain ⟨z,hz,hzr⟩:=hf.zero
  split at h
  ·rename_i xs hc hd
   obtain ⟨flat,hxl,hbig,hflen,k3,hrun⟩:=wD he hu hf hz hzr hc hd
   have hw:Below w.heap.size w (w.alloc (.cells flat.toArray te)):=(Below.refl _ w).alloc (Nat.le_refl _) _
   obtain ⟨tr,g'⟩:=jE (S:=ae O st loc w) (S':=ae O st loc (w.alloc (.cells flat.toArray te))) g rfl rfl rfl rfl hw
   have hheap:(w.alloc (.cells flat.toArray te)).heap[w.heap.size]?=some (.cells flat.toArray te (0,0)):=heap_alloc_new w _
   refine ⟨_, .slice (some ⟨w.heap.size,0,none⟩) n n,_,h,hw,g',tr,?_,?_⟩
   ·have mk:∀v,(n=0->∃a,v=Value.slice a 0 0)->CR cx.eT (ae O st loc (w.alloc (.cells flat.toArray te))) (.d (.slice e) xs) v->CR cx.eT (ae O st loc (w.alloc (.cells flat.toArray te))) (EZ n e xs) v:=by
     intro v h1 h2
     cases n with
     | zero=>exact h1 rfl
     | succ n=>exact h2
    refine mk _ (fun h0=>⟨some ⟨w.heap.size,0,none⟩,by rw [h0]⟩) ?_
    show VR cx.eT (.slice e) xs _ _ _
    have:=kr (eT:=cx.eT) (xs:=xs) (A:=(ae O st loc (w.alloc (.cells flat.toArray te))).A) (w:=w.alloc (.cells flat.toArray te)) (b:=w.heap.size) (o:=0) (cap:=n) (cs:=flat)
     (by rw [hxl];unfold av;omega) (by omega) ?_ (k3.frame tr.cell)
    ·rw [hxl] at this;exact this
    ·intro j u hj
     rw [Nat.zero_add,cell_of_row _ w.heap.size j _ te (0,0) hheap]
     refine ⟨by simpa using hj,?_⟩
     rintro (hA | ⟨m,oc,h1,h2,_⟩)
     ·have:=hO _ _ hA;omega
     ·have:=(g.obj m oc h1).2.inside _ h2
      simp [ae] at this
   ·exact hrun
  ·exact h.elim
 ·exact h.elim
theorem sW (hok:TyOK P cx) {O:ah} {st:St} {loc:Nat->Loc} {w:World} {a:Act} (g:Good cx.eT X (ae O st loc w)) (hO:bZ O w) (he:cJ cx.eT (ae O st loc w) st.env a)
  {t:TypeId} {n:Nat} {parts:Array (Nat × Operand)} {K:SV->St->VC} (h:(oG cx st t n parts.toList K).holds) :
  ∃sv v st' loc' w',(K sv st').holds/\Below w.heap.size w w'/\st'.env=st.env/\Good cx.eT X (ae O st' loc' w')/\Tr (ae O st loc w) (ae O st' loc' w')/\bH cx.eT (ae O st' loc' w') sv v/\(Instr.buildSlice t n (parts.map fun (i,x)=>(i,a.eval x))).run P w = .ok v w':=by
 unfold oG at h
 split at h
 ·rename_i e ht
  obtain ⟨te,ti,td,hu,hf⟩:=cX hok ht
  obtain ⟨z,hz,hzr⟩:=hf.zero
  split at h
  ·rename_i xs hc hd
   obtain ⟨flat,hxl,hbig,hflen,k3,hrun⟩:=wD he hu hf hz hzr hc hd
   have hw:Below w.heap.size w (w.alloc (.cells flat.toArray te)):=(Below.refl _ w).alloc (Nat.le_refl _) _
   obtain ⟨tr,g'⟩:=cS (oc:=.ax e xs) (l:=⟨.slice (some ⟨w.heap.size,0,none⟩) n n,[w.heap.size]⟩) g hO hw (by simp)
   have hg:=g' (.inr ⟨w.heap.size,flat.toArray,te,n,by rw [hxl],rfl,heap_alloc_new w _,by simp [hflen],by omega,by rw [hxl];unfold av;omega,fun i y hy=>by
    obtain ⟨us,r1,r2⟩:=(k3.frame tr.cell) i y hy
    exact ⟨us,r1,fun j u hj=>by have:=r2 j u hj;simpa using this⟩⟩)
   obtain ⟨loc2,t2,g2,c2,_⟩:=p8 (n:=st.next) (e:=e) (zs:=xs) (v:=.slice (some ⟨w.heap.size,0,none⟩) n n) hg (hO.tr tr.size) (by simp [fresh,aU]) ⟨by simp [ae,fresh],fun t' xs' hy=>by simp [ae,aP]⟩
   exact ⟨_,_,_,loc2,_,h,hw,rfl,g2,tr.trans t2,c2,hrun⟩
  ·exact h.elim
 ·exact h.elim
theorem rP (hok:TyOK P cx) {O:ah} {st:St} {loc:Nat->Loc} {w:World} (g:Good cx.eT X (ae O st loc w)) (hO:bZ O w)
  {t:TypeId} {l c:C} {vl vc:Value} {K:SV->St->VC} (hl:CR cx.eT (ae O st loc w) l vl) (hc:CR cx.eT (ae O st loc w) c vc) (h:(nx cx st t l c K).holds) :
  ∃sv v st' loc' w',(K sv st').holds/\Below w.heap.size w w'/\st'.env=st.env/\Good cx.eT X (ae O st' loc' w')/\Tr (ae O st loc w) (ae O st' loc' w')/\bH cx.eT (ae O st' loc' w') sv v/\(Instr.makeSlice t vl vc).run P w = .ok v w':=by
 unfold nx at h
 split at h
 ·rename_i e n m ht hn hm
  obtain ⟨te,ti,td,hu,hf⟩:=cX hok ht
  obtain ⟨z,hz,hzr⟩:=hf.zero
  split at h
  ·rename_i hno
   obtain ⟨⟨h0,hmn,hbig⟩,h⟩:=h
   subst hmn
   obtain ⟨kl,rfl,_⟩:=il hn hl
   obtain ⟨kc,rfl,_⟩:=il hm hc
   have hbytes:(ti.bytes:Int) * m<=281474976710656:=by
    have h1:=hf.bytes
    have h2:(ti.bytes:Int) * m<=4096 * 1000000000:=Int.mul_le_mul (by omega) hbig h0 (by omega)
    omega
   have hrun:=run_make (P:=P) w t te ti z hu hf.info hz kl kc m m h0 (Int.le_refl _) hbytes (by omega)
   have hzs:z.cells.size=e.size:=by rw [<-Array.length_toList];exact (fh (S:=ae O st loc w) (cx:=cx) hzr).length.symm.trans (dC e)
   have hw:Below w.heap.size w (w.alloc (.cells (madeCells z.cells (m.toNat * ti.size)) te)):=(Below.refl _ w).alloc (Nat.le_refl _) _
   obtain ⟨tr,g'⟩:=cS (oc:=.ax e (List.replicate m.toNat (bp e))) (l:=⟨.slice (some ⟨w.heap.size,0,none⟩) m.toNat m.toNat,[w.heap.size]⟩) g hO hw (by simp)
   have hg:=g' (.inr ⟨w.heap.size,madeCells z.cells (m.toNat * ti.size),te,m.toNat,by simp,rfl,heap_alloc_new w _,by rw [size_madeCells,hf.size],by simp,by simp;unfold av;omega,?_⟩)
   ·refine ⟨_,_,_,_,_,h,hw,rfl,hg,tr,⟨by simp [ae,fresh],fun t' xs' hy => ?_⟩,hrun⟩
    simp [ae,aP]
   ·intro i y hy
    have hi:=aE hy
    rw [List.length_replicate] at hi
    rw [List.getElem?_replicate,if_pos hi] at hy
    cases hy
    refine ⟨z.cells.toList,uc hzr hno,fun j u hj => ?_⟩
    have hjl:=aE hj
    rw [Array.length_toList] at hjl
    have hlt:i * e.size + j < m.toNat * ti.size:=by
     have:(i + 1) * e.size<=m.toNat * e.size:=Nat.mul_le_mul_right _ hi
     rw [Nat.add_mul] at this
     rw [hf.size]
     omega
    have hmod:(i * e.size + j) % z.cells.size=j:=by
     rw [hzs,Nat.add_comm,Nat.add_mul_mod_self_right,Nat.mod_eq_of_lt (by omega)]
    simp only [madeCells,Array.getElem?_map,Array.getElem?_range,hlt,if_true,Option.map_some,hmod]
    rw [getElem!_pos z.cells j hjl]
    rw [Array.getElem?_toList,Array.getElem?_eq_getElem hjl] at hj
    exact hj
  ·exact h.elim
 ·exact h.elim
def ud (st:St) (e:Ty) (d:C):Option (Nat × (List (D e) × (Nat × Nat))):=
 match d with
 | .ax n=>match look st.ag n with
  | some (.ax e' xs)=>match h:Ty.beq (.slice e') (.slice e) with
   | true=>some (n,(aX h (a:=.slice e') (b:=.slice e) xs,(0,xs.length)))
   | false=>none
  | _=>none
 | .jB n u lo len=>match look st.ag n with
  | some (.ax e' xs)=>match h:Ty.beq (.slice e') (.slice e),Ty.beq u e' with
   | true,true=>some (n,(aX h (a:=.slice e') (b:=.slice e) xs,(lo,len)))
   | _,_=>none
  | _=>none
 | _=>none
def sX (st:St) (e:Ty) (s:C):Option (List (D e) × Prop):=
 match p5 st e s with
 | some ys=>some (ys,True)
 | none=>match s with
  | .jB _ _ _ _=>match ud st e s with
   | some (_,(zs,(lo,len)))=>some ((zs.drop lo).take len,lo + len<=zs.length)
   | none=>none
  | _=>none
def yM (cx:Cx) (st:St) (t:TypeId) (d s:C) (K:SV->St->VC):VC:=
 match look cx.τ t with
 | some (.slice e)=>match e.one,ud st e d,sX st e s with
  | true,some (n,(xs,(lo,len))),some (ys,p) => .and (p/\lo + len<=xs.length)
    (K (.s (.one (.d (.int .i64) (min ys.length len:Nat)))) (setObj st n (.ax e (xs.take lo++ys.take (min ys.length len)++xs.drop (lo + min ys.length len)))))
  | _,_,_ => .ff
 | _ => .ff
theorem ue {O:ah} {st:St} {loc:Nat->Loc} {w:World} {e:Ty} {d:C} {n lo len:Nat} {xs:List (D e)} {v:Value} (h:ud st e d=some (n,(xs,(lo,len)))) (hd:CR cx.eT (ae O st loc w) d v) :
  look st.ag n=some (.ax e xs)/\((OR cx.eT X (ae O st loc w) (loc n) (.ax e xs))->(len=0/\∃a c,v = .slice a 0 c)\/∃b c,(loc n).bs = [b]/\v = .slice (some ⟨b,lo * e.size,none⟩) len c):=by
 unfold ud at h
 split at h
 ·rename_i n'
  split at h
  ·rename_i e' xs' hob
   split at h
   ·rename_i hb
    have:e'=e:=by have:=Ty.eq_of_beq hb;cases this;rfl
    subst this
    rw [cF] at h
    cases h
    refine ⟨hob,fun hor => ?_⟩
    have hv:=hd.2 _ _ hob
    rcases hor with ⟨rfl,⟨a,ha⟩,_⟩ | ⟨b,vs,T,cap,h1,h2,_⟩
    ·exact .inl ⟨rfl,a,0,hv.trans ha⟩
    ·exact .inr ⟨b,cap,h2,by rw [Nat.zero_mul];exact hv.trans h1⟩
   ·cases h
  ·cases h
 ·rename_i n' u lo' len'
  split at h
  ·rename_i e' xs' hob
   split at h
   ·rename_i hb hu
    have:e'=e:=by have:=Ty.eq_of_beq hb;cases this;rfl
    subst this
    have:=Ty.eq_of_beq hu
    subst this
    rw [cF] at h
    cases h
    exact ⟨hob,fun _=>hd.2 _ hob⟩
   ·cases h
  ·cases h
 ·cases h
theorem KL {eT:TypeId} {e:Ty} {xs:List (D e)} {A:ah} {w:World} {cs:List Value} (h:cE eT e xs A w cs) (lo len:Nat):cE eT e ((xs.drop lo).take len) A w ((cs.drop (lo * e.size)).take (len * e.size)):=by
 intro i y hy
 rw [List.getElem?_take] at hy
 split at hy
 ·rename_i hi
  rw [List.getElem?_drop] at hy
  obtain ⟨us,h1,h2⟩:=h _ y hy
  refine ⟨us,h1,fun j u hj => ?_⟩
  have hjl:=aE hj
  rw [h1.length] at hjl
  have h3:=h2 j u hj
  have:(i + 1) * e.size<=len * e.size:=Nat.mul_le_mul_right _ hi
  rw [Nat.add_mul] at this
  rw [List.getElem?_take,if_pos (by omega),List.getElem?_drop]
  rw [show lo * e.size + (i * e.size + j)=(lo + i) * e.size + j by rw [Nat.add_mul];omega]
  exact h3
 ·cases hy
theorem yN {O:ah} {st:St} {loc:Nat->Loc} {w:World} (g:Good cx.eT X (ae O st loc w)) {e:Ty} {s:C} {ys:List (D e)} {p:Prop} {v:Value} (h:sX st e s=some (ys,p)) (hp:p)
  (hs:CR cx.eT (ae O st loc w) s v):Src cx.eT e ys (ae O st loc w).A w v:=by
 unfold sX at h
 split at h
 ·rename_i ys' hsrc
  cases h
  exact oF g hsrc hs
 ·split at h
  ·split at h
   ·rename_i n zs lo len hct
    cases h
    obtain ⟨hob,hr⟩:=ue (X:=X) hct hs
    have hor:=(g.obj _ _ hob).2
    have hyl:((zs.drop lo).take len).length=len:=by rw [List.length_take,List.length_drop];omega
    rcases hr hor with ⟨h0,a,c,hv⟩ | ⟨b,c,h1,hv⟩
    ·subst h0
     exact .inl ⟨by simp,a,c,hv⟩
    ·rcases hor with ⟨_,_,h2⟩ | ⟨b',vs,T,cap,h2,h3,hheap,hvs,hcap,_,he⟩
     ·exact absurd (h1.symm.trans h2) (by simp)
     ·have hbb:b=b':=by have h4:(loc n).bs = [b']:=h3;rw [h1] at h4;cases h4;rfl
      subst hbb
      have hle:zs.length * e.size<=vs.size:=by rw [hvs];exact Nat.mul_le_mul_right _ hcap
      obtain ⟨cs,hcs,k1,k2,k3⟩:=kR he hle
      refine .inr ⟨b,lo * e.size,c,(cs.drop (lo * e.size)).take (len * e.size),by rw [hyl];exact hv,?_,fun j u hj => ?_,KL k2 lo len,fun u hu=>k3 u (List.mem_of_mem_drop (List.mem_of_mem_take hu))⟩
      ·rw [hyl,List.length_take,List.length_drop,k1]
       have:(lo + len) * e.size<=zs.length * e.size:=Nat.mul_le_mul_right _ hp
       rw [Nat.add_mul] at this
       omega
      ·rw [cell_of_row w b _ vs T (0,0) hheap]
       rw [List.getElem?_take] at hj
       split at hj
       ·rw [List.getElem?_drop,hcs,List.getElem?_take] at hj
        split at hj
        ·simpa using hj
        ·cases hj
       ·cases hj
   ·cases h
  ·cases h
theorem yO (hok:TyOK P cx) {O:ah} {st:St} {loc:Nat->Loc} {w:World} (g:Good cx.eT X (ae O st loc w)) (hO:bZ O w)
  {t t' ty:TypeId} {d s:C} {K:SV->St->VC} {vd vx:Value} (hd:CR cx.eT (ae O st loc w) d vd) (hs:CR cx.eT (ae O st loc w) s vx) (h:(yM cx st t d s K).holds) :
  ∃sv v st' loc' w',(K sv st').holds/\st'.env=st.env/\Good cx.eT X (ae O st' loc' w')/\Tr (ae O st loc w) (ae O st' loc' w')/\bH cx.eT (ae O st' loc' w') sv v/\
   (Builtin.copy_ #[t,t'] ty #[vd,vx]).run P w = .ok v w':=by
 unfold yM at h
 split at h
 case h_2=>exact h.elim
 rename_i e ht
 obtain ⟨te,ti,td,hu,hf⟩:=cX hok ht
 split at h
 case h_2=>exact h.elim
 rename_i n xs lo len ys p hone hct hcf
 obtain ⟨⟨hp,hle⟩,h⟩:=h
 have hsz:=Ty.jk hone
 obtain ⟨hob,hdst⟩:=ue (X:=X) hct hd
 have hn:=(g.obj n _ hob).1
 have hor:=(g.obj n _ hob).2
 have hsrc:=yN g hcf hp hs
 have his:(P.info? te).map (·.size)=some 1:=by rw [hf.info];simp [hf.size,hsz]
 have hbig:xs.length<=av:=by
  rcases hor with ⟨rfl,_,_⟩ | ⟨_,_,_,_,_,_,_,_,_,h1,_⟩
  ·simp
  ·exact h1
 generalize hk:min ys.length len=k at h
 have hkr:IntKind.i64.min<=(k:Int)/\(k:Int)<=IntKind.i64.max:=pW (by omega)
 have none0:k=0->∀dp dc sp sl sc,vd = .slice dp len dc->vx = .slice sp sl sc->sl=ys.length->∃sv v st' loc' w',(K sv st').holds/\st'.env=st.env/\Good cx.eT X (ae O st' loc' w')/\Tr (ae O st loc w) (ae O st' loc' w')/\bH cx.eT (ae O st' loc' w') sv v/\
   (Builtin.copy_ #[t,t'] ty #[vd,vx]).run P w = .ok v w':=by
  intro hk0 dp dc sp sl sc e1 e2 e3
  subst hk0
  have hst:ae O (setObj st n (.ax e (xs.take lo++ys.take 0++xs.drop (lo + 0)))) loc w=ae O st loc w:=by
   have:look (setObj st n (.ax e (xs.take lo++ys.take 0++xs.drop (lo + 0)))).ag=look st.ag:=by
    funext m
    rw [jo]
    by_cases e1:n=m
    ·rw [if_pos e1,<-e1,hob];simp
    ·rw [if_neg e1]
   simp only [ae,this];rfl
  have hrun:=run_copy_none (P:=P) w t t' ty te dp sp len dc sl sc hu his (by rw [e3];exact hk)
  have hI:∀S:aH,CR cx.eT S (.d (.int .i64) ((0:Nat):Int)) (goInt 0):=fun S=>bd.2 ⟨rfl,hkr⟩
  refine ⟨.s (.one (.d (.int .i64) ((0:Nat):Int))),goInt 0,_,loc,w,h,rfl,by rw [hst];exact g,by rw [hst];exact Tr.refl _,hI (ae O (setObj st n (.ax e (xs.take lo++ys.take 0++xs.drop (lo + 0)))) loc w),?_⟩
  rw [e1,e2];exact hrun
 have hsl:∃sp sc,vx = .slice sp ys.length sc:=by
  rcases hsrc with ⟨rfl,a,c,hv⟩ | ⟨b,o,cap,cs,hv,_⟩
  ·exact ⟨a,c,by simpa using hv⟩
  ·exact ⟨_,_,hv⟩
 obtain ⟨sp,sc,hvx⟩:=hsl
 have hdl:∃dp dc,vd = .slice dp len dc:=by
  rcases hdst hor with ⟨rfl,a,c,hv⟩ | ⟨b,c,_,hv⟩
  ·exact ⟨a,c,hv⟩
  ·exact ⟨_,_,hv⟩
 obtain ⟨dp,dc,hvd⟩:=hdl
 by_cases hk0:k=0
 ·exact none0 hk0 dp dc sp _ sc hvd hvx rfl
 ·rcases hdst hor with ⟨h0,_⟩ | ⟨b,c,hb,hv⟩
  ·omega
  ·rcases hsrc with ⟨rfl,_⟩ | ⟨b2,o2,cap2,cs,hv2,cz,hcc,hrl,hone'⟩
   ·simp at hk;omega
   ·rcases hor with ⟨_,_,h2⟩ | ⟨b',vs,T,cap,h2,h3,hheap,hvs,hcap,_,he⟩
    ·exact absurd (hb.symm.trans h2) (by simp)
    ·have hbb:b=b':=by have h4:(loc n).bs = [b']:=h3;rw [hb] at h4;cases h4;rfl
     subst hbb
     rw [hsz,Nat.mul_one] at hv hvs
     rw [hsz,Nat.mul_one] at cz
     have hkl:(cs.take k).length=k:=by rw [List.length_take];omega
     have hfit:lo + (cs.take k).length<=vs.size:=by rw [hkl,hvs];omega
     have hrun:=run_copy_row (P:=P) w t t' ty te b lo len c ⟨b2,o2,none⟩ ys.length cap2 vs T (cs.take k) hu his hheap (by rw [hkl];exact hk.symm)
      (fun j u hj=>by
       rw [Addr.add_lit]
       rw [List.getElem?_take] at hj
       split at hj
       ·exact hcc j u hj
       ·cases hj) hfit (fun u hu=>hone' u (List.mem_of_mem_take hu))
     rw [hkl] at hrun
     have hst:=sV (X:=X) (cx:=cx) (oc':=.ax e (xs.take lo++ys.take k++xs.drop (lo + k))) (cs':=(vs.toList.take lo++cs.take k++vs.toList.drop (lo + k)).toArray) g hO hob h3 (by simp [aw]) rfl rfl
     have hxl:(xs.take lo++ys.take k++xs.drop (lo + k)).length=xs.length:=by
      simp only [List.length_append,List.length_take,List.length_drop];omega
     have hI:∀S:aH,CR cx.eT S (.d (.int .i64) (k:Int)) (goInt k):=fun S=>bd.2 ⟨rfl,hkr⟩
     refine ⟨.s (.one (.d (.int .i64) (k:Int))),goInt k,_,loc,_,h,rfl,hst.2 (.inr ⟨b,_,T,cap,by rw [hxl];exact h2,h3,setRow_heap w b vs _ T (0,0) hheap,?_,by rw [hxl];exact hcap,by rw [hxl];exact hbig,?_⟩),hst.1,hI (ae O (setObj st n (.ax e (xs.take lo++ys.take k++xs.drop (lo + k)))) loc (w.setRow b (vs.toList.take lo++cs.take k++vs.toList.drop (lo + k)).toArray)),?_⟩
     ·rw [hsz,Nat.mul_one]
      simp only [List.size_toArray,List.length_append,List.length_take,List.length_drop,Array.length_toList]
      rw [hkl] at hfit
      omega
     ·intro i y hy
      have hone1:∀{z:D e} {us:List Value} {A:ah} {w:World},R cx.eT e z A w us->∃u,us = [u]:=fun hr=>List.length_eq_one_iff.1 (by rw [hr.length,hsz])
      have old:∀i',xs[i']?=some y->(i < lo\/lo + k<=i)->i'=i->∃us,R cx.eT e y (ae O (setObj st n (.ax e (xs.take lo++ys.take k++xs.drop (lo + k)))) loc (w.setRow b (vs.toList.take lo++cs.take k++vs.toList.drop (lo + k)).toArray)).A (w.setRow b (vs.toList.take lo++cs.take k++vs.toList.drop (lo + k)).toArray) us/\
        ∀j u,us[j]?=some u->(vs.toList.take lo++cs.take k++vs.toList.drop (lo + k)).toArray[i * e.size + j]?=some u:=by
       intro i' hx hr hi
       subst hi
       obtain ⟨us,r1,r2⟩:=he i' y hx
       refine ⟨us,r1.frame hst.1.cell,fun j u hj => ?_⟩
       obtain ⟨u0,rfl⟩:=hone1 r1
       have hj0:j=0:=by have:=aE hj;simp at this;exact this
       subst hj0
       have:=r2 0 u hj
       rw [hsz,Nat.mul_one] at this ⊢
       have hsp:=dv vs.toList (cs.take k) lo i' (by rw [Array.length_toList];exact hfit)
       rw [hkl] at hsp
       rw [List.getElem?_toArray,Nat.add_zero,hsp]
       rw [Nat.add_zero] at this
       rcases hr with hr | hr
       ·rw [if_pos hr,Array.getElem?_toList];exact this
       ·rw [if_neg (by omega),if_neg (by omega),Array.getElem?_toList];exact this
      by_cases c1:i < lo
      ·rw [List.append_assoc,List.getElem?_append,if_pos (by rw [List.length_take];omega),List.getElem?_take,if_pos c1] at hy
       exact old i hy (.inl c1) rfl
      ·by_cases c2:i < lo + k
       ·rw [List.append_assoc,List.getElem?_append,if_neg (by rw [List.length_take];omega),List.getElem?_append,if_pos (by simp only [List.length_take];omega),List.getElem?_take] at hy
        simp only [List.length_take] at hy
        rw [show min lo xs.length=lo by omega] at hy
        rw [if_pos (by omega)] at hy
        obtain ⟨us,r1,r2⟩:=hrl _ y hy
        refine ⟨us,r1.frame hst.1.cell,fun j u hj => ?_⟩
        obtain ⟨u0,rfl⟩:=hone1 r1
        have hj0:j=0:=by have:=aE hj;simp at this;exact this
        subst hj0
        have:=r2 0 u hj
        rw [hsz,Nat.mul_one,Nat.add_zero] at this ⊢
        have hsp:=dv vs.toList (cs.take k) lo i (by rw [Array.length_toList];exact hfit)
        rw [hkl] at hsp
        rw [List.getElem?_toArray,hsp,if_neg c1,if_pos c2,List.getElem?_take,if_pos (by omega)]
        exact this
       ·rw [List.append_assoc,List.getElem?_append,if_neg (by rw [List.length_take];omega),List.getElem?_append,if_neg (by simp only [List.length_take];omega),List.getElem?_drop] at hy
        simp only [List.length_take] at hy
        rw [show lo + k + (i - min lo xs.length - min k ys.length)=i by omega] at hy
        exact old i hy (.inr (by omega)) rfl
     ·rw [hv,hv2];exact hrun
end
end Go.Vg

namespace Go.Vg
open Go.RowKit
def qb (cx:Cx) (st:St) (x:Operand) (ty:TypeId) (K:SV->St->VC):VC:=
 match ev st.env x,look cx.τ ty with
 | .s (.one .dY),some (.slice e)=>match spot e with
  | some _=>K (.s (.one (.xd st.next .top))) (fresh st (.ext 0 (.slice e) []))
  | none => .ff
 | _,_ => .ff
def qc (cx:Cx) (st:St) (t:TypeId) (v:aZ) (K:SV->St->VC):VC:=
 match look cx.τ t with
 | some (.slice e)=>match spot e,rf st e v,Nat.ble e.size 1000 with
  | some s,some cs,true=>match cs[s.off]?,gG e (cs.set s.off .dY) with
   | some (.ax m),some (y0,[])=>match look st.ag m with
    | some (.ax t' zs)=>match h:Ty.beq (.slice t') (.slice s.t) with
     | true=>K (.s (.one (.xd st.next .top))) (fresh (aA (aA st m) m) (.ext 0 (.slice e) [s.put y0 (aX h (a:=.slice t') zs)]))
     | false => .ff
    | _ => .ff
   | _,_ => .ff
  | _,_,_ => .ff
 | _ => .ff
def vH (cx:Cx) (st:St) (t:TypeId) (n m:Nat) (K:SV->St->VC):VC:=
 match look cx.τ t,look st.ag n,look st.ag m with
 | some (.slice e),some (.ext 0 (.slice e1) xs),some (.ext 0 (.slice e2) ys)=>match h1:Ty.beq (.slice e1) (.slice e),h2:Ty.beq (.slice e2) (.slice e),Nat.beq n m with
  | true,true,false => .and (0 < List.length ys/\List.length xs + List.length ys<=1000000000)
    (K (.s (.one (.xd st.next .top))) (fresh (aA (aA st n) m) (.ext 0 (.slice e) (aX h1 (a:=.slice e1) xs++aX h2 (a:=.slice e2) ys))))
  | _,_,_ => .ff
 | _,_,_ => .ff
def qd (st:St) (n:Nat) (i j:Nat) (ty:Ty) (v:aZ) (K:SV->St->VC):VC:=
 match look st.ag n with
 | some (.ext 0 (.slice e) xs)=>match spot e with
  | some s=>match lF s.t v,Ty.beq s.t ty with
   | some z,true => .and (i < List.length xs/\j < (s.get (nth e xs i)).length) (K (.s (.one .any)) (setObj st n (.ext 0 (.slice e) (List.set xs i (s.put (nth e xs i) ((s.get (nth e xs i)).set j z))))))
   | _,_ => .ff
  | none => .ff
 | _ => .ff
section
variable {X:Ext} {P:Program} {cx:Cx}
theorem Hh (st:St) (n m k:Nat) (oc:OC) (h:look (aA (aA st n) m).ag k=some oc):k≠n/\k≠m/\look st.ag k=some oc:=by
 simp only [aA] at h
 rw [fQ] at h
 split at h
 ·cases h
 ·rename_i h1
  rw [fQ] at h
  split at h
  ·cases h
  ·rename_i h2;exact ⟨fun e=>h2 e.symm,fun e=>h1 e.symm,h⟩
theorem lP {O:ah} {st:St} {loc:Nat->Loc} {w w':World} (g:Good cx.eT X (ae O st loc w)) (hO:bZ O w) (n m:Nat) {oc:OC} {l:Loc}
  (hos:w'.os=w.os) (hout:w'.output=w.output) (hsize:w.heap.size<=w'.heap.size)
  (hlo:∀k oc',(k=n\/k=m)->look st.ag k=some oc'->oc'.lo=0)
  (hb:∀b,b < w.heap.size->(∀k oc',(k=n\/k=m)->look st.ag k=some oc'->b∉(loc k).bs)->w'.heap[b]?=w.heap[b]?)
  (hl:∀b∈l.bs,(∃k oc',(k=n\/k=m)/\look st.ag k=some oc'/\b∈(loc k).bs)\/w.heap.size<=b) :
  Tr (ae O st loc w) (ae O (fresh (aA (aA st n) m) oc) (aP loc st.next l) w')/\
   (OR cx.eT X (ae O (fresh (aA (aA st n) m) oc) (aP loc st.next l) w') l oc->Good cx.eT X (ae O (fresh (aA (aA st n) m) oc) (aP loc st.next l) w')):=by
 have hob:∀k oc',(ae O (fresh (aA (aA st n) m) oc) (aP loc st.next l) w').ob k=some oc'->(k=st.next/\oc'=oc)\/(k≠st.next/\k≠n/\k≠m/\look st.ag k=some oc'):=by
  intro k oc' h
  rw [gO] at h
  split at h
  ·rename_i e;cases h;exact .inl ⟨e.symm,rfl⟩
  ·rename_i e;obtain ⟨h1,h2,h3⟩:=Hh st n m k oc' h;exact .inr ⟨fun e'=>e e'.symm,h1,h2,h3⟩
 have hloc:∀k,k≠st.next->(aP loc st.next l) k=loc k:=fun k h=>by simp only [aP];rw [if_neg (fun e=>h e.symm)]
 have hlocn:(aP loc st.next l) st.next=l:=by simp [aP]
 have hkeep:∀k oc',k≠n->k≠m->look st.ag k=some oc'->∀b∈(loc k).bs,w'.heap[b]?=w.heap[b]?:=by
  intro k oc' h1 h2 h3 b hbk
  refine hb b ((g.obj k oc' h3).2.inside b hbk) fun k' oc'' hk' hk'' hbk' => ?_
  have:=g.apart k k' oc' oc'' b h3 hk'' hbk hbk'
  rcases hk' with rfl | rfl <;> contradiction
 have hnewA:∀b o,b < w.heap.size->b∈l.bs->(ae O st loc w).A b o:=by
  intro b o hlt hbl
  rcases hl b hbl with ⟨k,oc',hk,h1,h2⟩ | h
  ·exact .inr ⟨k,oc',h1,h2,by rw [hlo k oc' hk h1];exact Nat.zero_le _⟩
  ·omega
 have ht:Tr (ae O st loc w) (ae O (fresh (aA (aA st n) m) oc) (aP loc st.next l) w'):={
  O:=rfl
  next:=by show st.next<=st.next + 1;omega
  os:=hos
  output:=hout
  size:=hsize
  own:=fun b h=>by
   obtain ⟨k,oc',h1,h2⟩:=h
   rcases hob k oc' h1 with ⟨rfl,rfl⟩ | ⟨e,e1,e2,h3⟩
   ·rw [show (ae O _ (aP loc st.next l) w').loc st.next=l from hlocn] at h2
    rcases hl b h2 with ⟨k',oc'',_,h4,h5⟩ | h
    ·exact .inl ⟨k',oc'',h4,h5⟩
    ·exact .inr h
   ·rw [show (ae O _ (aP loc st.next l) w').loc k=loc k from hloc k e] at h2
    exact .inl ⟨k,oc',h3,h2⟩
  cell:=fun b o v ha hcell=>by
   have hlt:=World.block_lt_of_cell? w _ hcell
   simp only at hlt
   constructor
   ·have:w'.heap[b]?=w.heap[b]?:=hb b hlt fun k oc' hk h1 h2=>ha (.inr ⟨k,oc',h1,h2,by rw [hlo k oc' hk h1];exact Nat.zero_le _⟩)
    show w'.cell? _=_
    rw [World.cell?_of_block (w:=w) (w':=w') (a:=⟨b,o,none⟩) this];exact hcell
   ·rintro (h | ⟨k,oc',h1,h2,h3⟩)
    ·exact ha (.inl h)
    ·rcases hob k oc' h1 with ⟨rfl,rfl⟩ | ⟨e,e1,e2,h4⟩
     ·rw [show (ae O _ (aP loc st.next l) w').loc st.next=l from hlocn] at h2
      exact ha (hnewA b o hlt h2)
     ·rw [show (ae O _ (aP loc st.next l) w').loc k=loc k from hloc k e] at h2
      exact ha (.inr ⟨k,oc',h4,h2,h3⟩)
  block:=fun b hlt ho=>hb b hlt fun k oc' _ h1 h2=>ho ⟨k,oc',h1,h2⟩
  loc:=fun k hlt _=>iZ (hloc k (by simp [ae] at hlt;omega))
  kind:=fun k oc' hlt h=>by
   rcases hob k oc' h with ⟨rfl,rfl⟩ | ⟨e,e1,e2,h3⟩
   ·simp [ae] at hlt
   ·refine ⟨oc',h3,?_⟩
    have:(ae O (fresh (aA (aA st n) m) oc) (aP loc st.next l) w').loc k=(ae O st loc w).loc k:=hloc k e
    rw [this]
    cases oc' <;> simp [aw]}
 refine ⟨ht,fun hor=>⟨fun k oc' h => ?_,fun m1 m2 oc1 oc2 b h1 h2 h3 h4 => ?_,fun k oc' b off h1 h2 => ?_,g.eE.tr ht⟩⟩
 ·rcases hob k oc' h with ⟨rfl,rfl⟩ | ⟨e,e1,e2,h3⟩
  ·exact ⟨by simp [ae,fresh,aA],by rw [show (ae O _ (aP loc st.next l) w').loc st.next=l from hlocn];exact hor⟩
  ·obtain ⟨k1,k2⟩:=g.obj k oc' h3
   refine ⟨by simp only [ae,fresh,aA] at k1 ⊢;omega,?_⟩
   rw [show (ae O _ (aP loc st.next l) w').loc k=(ae O st loc w).loc k from hloc k e]
   exact k2.tr ht (hkeep k oc' e1 e2 h3)
 ·have key:∀k oc',k≠n->k≠m->look st.ag k=some oc'->b∈l.bs->b∈(loc k).bs->False:=by
   intro k oc' e1 e2 hk hbl hbk
   rcases hl b hbl with ⟨k',oc'',hk',h5,h6⟩ | h
   ·have:=g.apart k k' oc' oc'' b hk h5 hbk h6
    rcases hk' with rfl | rfl <;> contradiction
   ·have:=(g.obj k oc' hk).2.inside b hbk
    simp only [ae] at this;omega
  rcases hob m1 oc1 h1 with ⟨rfl,rfl⟩ | ⟨e,e1,e2,h5⟩ <;> rcases hob m2 oc2 h2 with ⟨rfl,rfl⟩ | ⟨e',e1',e2',h6⟩
  ·rfl
  ·rw [show (ae O _ (aP loc st.next l) w').loc st.next=l from hlocn] at h3
   rw [show (ae O _ (aP loc st.next l) w').loc m2=loc m2 from hloc m2 e'] at h4
   exact (key m2 oc2 e1' e2' h6 h3 h4).elim
  ·rw [show (ae O _ (aP loc st.next l) w').loc st.next=l from hlocn] at h4
   rw [show (ae O _ (aP loc st.next l) w').loc m1=loc m1 from hloc m1 e] at h3
   exact (key m1 oc1 e1 e2 h5 h4 h3).elim
  ·rw [show (ae O _ (aP loc st.next l) w').loc m1=loc m1 from hloc m1 e] at h3
   rw [show (ae O _ (aP loc st.next l) w').loc m2=loc m2 from hloc m2 e'] at h4
   exact g.apart m1 m2 oc1 oc2 b h5 h6 h3 h4
 ·rcases hob k oc' h1 with ⟨rfl,rfl⟩ | ⟨e,e1,e2,h3⟩
  ·rw [show (ae O _ (aP loc st.next l) w').loc st.next=l from hlocn] at h2
   rcases hl b h2 with ⟨k',oc'',_,h5,h6⟩ | h
   ·exact g.out k' oc'' b off h5 h6
   ·intro hA;have:=hO _ _ hA;omega
  ·rw [show (ae O _ (aP loc st.next l) w').loc k=loc k from hloc k e] at h2
   exact g.out k oc' b off h3 h2
theorem xU {O:ah} {st:St} {loc:Nat->Loc} {w:World} {a:Act} (g:Good cx.eT X (ae O st loc w)) (hO:bZ O w) (he:cJ cx.eT (ae O st loc w) st.env a)
  {x:Operand} {ty:TypeId} {K:SV->St->VC} (h:(qb cx st x ty K).holds) :
  ∃sv st' loc',(K sv st').holds/\st'.env=st.env/\Good cx.eT X (ae O st' loc' w)/\Tr (ae O st loc w) (ae O st' loc' w)/\bH cx.eT (ae O st' loc' w) sv (a.eval x):=by
 have hx:=gM he x
 unfold qb at h
 split at h
 ·rename_i e hl _
  rw [hl] at hx
  split at h
  ·rename_i s hs
   obtain ⟨tr1,g1⟩:=cS (oc:=.ext 0 (.slice e) []) (l:=⟨.tuple #[.slice none 0 0],[]⟩) g hO (Below.refl _ w) (by simp)
   have g1:=g1 (X.deep.2 ⟨s,hs, .slice none 0 0,[],rfl, .inl ⟨rfl,rfl,⟨none,rfl⟩,rfl⟩⟩)
   refine ⟨_,_,_,h,rfl,g1,tr1,?_⟩
   rw [show a.eval x=_ from hx]
   refine ⟨by simp [ae,fresh],fun t' x' hy => ?_⟩
   exact ⟨[],by simp [ae,aP]⟩
  ·exact h.elim
 ·exact h.elim
theorem yP:∀{e:Ty} {s:iI e} {y:D e} {ys:List (D s.t)} {A A':ah} {w w':World} {us:List Value} {h h0:Value} {eT:TypeId},spot e=some s->R eT e y A w (us.set s.off h0)->
  R eT (.slice s.t) ys A' w' [h]->us[s.off]?=some h->R eT e (s.put y ys) A' w' us:=by
 intro e
 induction e with
 | slice t _=>
  intro s y ys A A' w w' us h h0 eT hs hr hy hu
  obtain ⟨_,_,rfl⟩:=ik hs
  obtain ⟨v,hv,h2⟩:=hr
  have hl:us.length=1:=by have:=congrArg List.length hv;simpa using this
  match us,hl with
  | [u],_=>simp at hu;subst hu;exact hy
 | prod a b iha ihb=>
  intro s y ys A A' w w' us h h0 eT hs hr hy hu
  obtain ⟨u1,u2,hv,r1,r2⟩:=hr
  have hl1:=r1.length
  rcases jv hs with ⟨s',h1,hb,rfl⟩ | ⟨s',ha,h1,rfl⟩
  ·have hlt:=nN h1
   simp only at hv hu
   have e1:us.set s'.off h0=(us.take a.size).set s'.off h0++us.drop a.size:=by
    conv=>lhs;rw [<-List.take_append_drop a.size us]
    have hul:s'.off < us.length:=aE hu
    rw [List.set_append_left _ _ (by rw [List.length_take];omega)]
   have hlen:us.length=a.size + u2.length:=by have:=congrArg List.length hv;simp only [List.length_set,List.length_append] at this;omega
   rw [e1] at hv
   obtain ⟨k1,k2⟩:=List.append_inj hv (by rw [List.length_set,List.length_take];omega)
   subst k1 k2
   refine ⟨us.take a.size,us.drop a.size,(List.take_append_drop _ _).symm,iha h1 r1 hy ?_,r2.of_flat (lO hb)⟩
   rw [List.getElem?_take,if_pos hlt];exact hu
  ·have hlt:=nN h1
   simp only at hv hu
   have hul:=aE hu
   have e1:us.set (a.size + s'.off) h0=us.take a.size++(us.drop a.size).set s'.off h0:=by
    conv=>lhs;rw [<-List.take_append_drop a.size us]
    rw [List.set_append_right _ _ (by rw [List.length_take];omega)]
    congr 2
    rw [List.length_take];omega
   rw [e1] at hv
   obtain ⟨k1,k2⟩:=List.append_inj hv (by rw [List.length_take];omega)
   subst k1 k2
   refine ⟨us.take a.size,us.drop a.size,(List.take_append_drop _ _).symm,r1.of_flat (lO ha),ihb h1 r2 hy ?_⟩
   rw [List.getElem?_drop];exact hu
 | _=>intro s y ys A A' w w' us h h0 eT hs;cases hs
theorem yQ (cx:Cx) {t te:TypeId} {e:Ty} {ti:TypeInfo} {td:TypeDesc} (hu:P.underlying t=some (.slice te)) (hf:Fit P te e ti td) {v:Value} (hv:v.cells.toList.length=e.size) (hp:0 < e.size) (hbig:e.size<=16777216) (w:World) :
  (Instr.buildSlice t 1 #[(0,v)]).run P w = .ok (.slice (some ⟨w.heap.size,0,none⟩) 1 1) (w.alloc (.cells v.cells te)):=by
 obtain ⟨z,hz,hzr⟩:=hf.zero
 have hzs:z.cells.size=e.size:=by
  rw [<-Array.length_toList]
  exact (fh (S:=⟨fun _ _=>False,fun _=>none,fun _=>default,0,w⟩) (cx:=cx) hzr).length.symm.trans (dC e)
 have hfill:∀cells:Array Value,cells.size=e.size->Instr.fill (fun i=>some (i * e.size,e.size)) cells [(0,v)]=some v.cells:=by
  intro cells hcs
  rw [yK e.size [(0,v)] 0 cells (fun i p hp=>by
    cases i with
    | zero=>simp at hp;subst hp;rfl
    | succ i=>simp at hp)
   (fun p hp=>by simp at hp;subst hp;rw [<-Array.length_toList];exact hv)
   (by simp [hcs])]
  simp
 have hfl:=hfill ((Array.range (1 * e.size)).map fun k=>z.cells[k % z.cells.size]!) (by simp)
 have h0:e.size≠0:=by omega
 have hsz':¬ (e.size > 2 ^ 24):=by omega
 have hfl':=hfill ((Array.range (e.size)).map fun k=>z.cells[k % z.cells.size]!) (by simp)
 simp [Instr.buildSlice,run_underlying hu,cD hf,h0,hsz',newRow,zeroValue,typeInfo,hf.info,hz]
 rw [hfl']
 simp
theorem bR.set {eT:TypeId} {S:aH} {cs:List C} {vs:List Value} (h:bR eT S cs vs):∀{k:Nat} {c:C} {v:Value},CR eT S c v->v.oneCell'=true->bR eT S (cs.set k c) (vs.set k v):=by
 induction h with
 | nil=>intro k c v _ _;exact .nil
 | cons h1 h2 h3 ih=>
  intro k c v hc hv
  cases k with
  | zero=>exact .cons hc hv h3
  | succ k=>exact .cons h1 h2 (ih hc hv)
theorem uf (hok:TyOK P cx) {O:ah} {st:St} {loc:Nat->Loc} {w:World} (g:Good cx.eT X (ae O st loc w)) (hO:bZ O w)
  {t:TypeId} {v:aZ} {u:Value} {K:SV->St->VC} (hv:dr cx.eT (ae O st loc w) v u) (h:(qc cx st t v K).holds) :
  ∃sv val st' loc' w',(K sv st').holds/\st'.env=st.env/\Below w.heap.size w w'/\Good cx.eT X (ae O st' loc' w')/\Tr (ae O st loc w) (ae O st' loc' w')/\bH cx.eT (ae O st' loc' w') sv val/\
   (Instr.buildSlice t 1 #[(0,u)]).run P w = .ok val w':=by
 unfold qc at h
 split at h
 case h_2=>exact h.elim
 rename_i e ht
 obtain ⟨te,ti,td,hu,hf⟩:=cX hok ht
 split at h
 case h_2=>exact h.elim
 rename_i s cs hs hfl hsm
 have hsm:=Nat.le_of_ble_eq_true hsm
 obtain ⟨us,hus,hcr,hul⟩:=mN g hfl hv
 split at h
 case h_2=>exact h.elim
 rename_i m y0 hm hp
 split at h
 case h_2=>exact h.elim
 rename_i t' zs hob
 split at h
 case h_2=>exact h.elim
 rename_i hb
 have htt:t'=s.t:=by have:=Ty.eq_of_beq hb;cases this;rfl
 subst htt
 rw [cF] at h
 obtain ⟨hd,hget,hch,_⟩:=hcr.get hm
 have hdv:=hch.2 _ _ hob
 have hset:=hcr.set (k:=s.off) (c:=.dY) (v:=.slice none 0 0) rfl rfl
 obtain ⟨us1,us2,he12,hr0,hnil⟩:=wz hp hset
 cases hnil
 rw [List.append_nil] at he12
 subst he12
 have hoff:=nN hs
 have hrun:=yQ (P:=P) cx hu hf (v:=u) (by rw [hus];exact hul) (by omega) (by omega) w
 have hbel:Below w.heap.size w (w.alloc (.cells u.cells te)):=(Below.refl _ w).alloc (Nat.le_refl _) _
 have hheap:(w.alloc (.cells u.cells te)).heap[w.heap.size]?=some (.cells u.cells te (0,0)):=heap_alloc_new w _
 have hlo:∀k oc',(k=m\/k=m)->look st.ag k=some oc'->oc'.lo=0:=by
  intro k oc' hk hl
  have:k=m:=by rcases hk with h | h <;> exact h
  subst this;rw [hob] at hl;cases hl;rfl
 have fin:∀(co:Option Nat),(∀c,co=some c->c∈(loc m).bs)->(∀c,co=some c->c≠w.heap.size/\∃vs T,(w.alloc (.cells u.cells te)).heap[c]?=some (.cells vs T (0,0)))->
   R 0 (.slice s.t) zs (jC co) (w.alloc (.cells u.cells te)) [hd]->
   ∃sv val st' loc' w',(K sv st').holds/\st'.env=st.env/\Below w.heap.size w w'/\Good cx.eT X (ae O st' loc' w')/\Tr (ae O st loc w) (ae O st' loc' w')/\bH cx.eT (ae O st' loc' w') sv val/\
    (Instr.buildSlice t 1 #[(0,u)]).run P w = .ok val w':=by
  intro co hco1 hco2 hr
  obtain ⟨tr,gd⟩:=lP (w':=w.alloc (.cells u.cells te)) (oc:=.ext 0 (.slice e) [s.put y0 zs]) (l:=⟨.tuple #[.slice (some ⟨w.heap.size,0,none⟩) 1 1,hd],w.heap.size :: [co].filterMap id⟩) g hO m m hbel.os hbel.output hbel.size hlo
   (fun b hlt _=>hbel.block b hlt) (fun b hbm=>by
    rcases List.mem_cons.1 hbm with rfl | hbm
    ·exact .inr (Nat.le_refl _)
    ·obtain ⟨i,hi⟩:=cu.1 hbm
     cases i with
     | zero=>simp at hi;exact .inl ⟨m,_, .inl rfl,hob,hco1 b hi⟩
     | succ i=>simp at hi)
  have gd:=gd (X.deep.2 ⟨s,hs,_,[hd],rfl, .inr ⟨w.heap.size,u.cells,te,1,[co],rfl,rfl,hheap,by rw [<-Array.length_toList,hus,hul];omega,Nat.le_refl _,by unfold av;simp,{
    hl:=rfl
    cl:=rfl
    inj:=fun i j c hi hj=>by
     have:=aE hi;have:=aE hj
     simp at *;omega
    rS:=fun i c hi=>by
     cases i with
     | zero=>simp at hi;exact hco2 c hi
     | succ i=>simp at hi
    row:=fun i y hy=>by
     cases i with
     | succ i=>simp at hy
     | zero=>
      simp at hy
      subst hy
      refine ⟨co,hd,us,rfl,rfl,hget,yP hs (Ch hs hr0) hr hget,fun j x hj => ?_⟩
      rw [Nat.zero_mul,Nat.zero_add,<-Array.getElem?_toList,hus];exact hj}⟩⟩)
  refine ⟨_,_,_,_,_,h,rfl,hbel,gd,tr,⟨by simp [ae,fresh,aA],fun t' x' hy=>⟨[hd],by simp [ae,aP]⟩⟩,hrun⟩
 rcases (g.obj m _ hob).2 with ⟨rfl,⟨a,ha⟩,_⟩ | ⟨c,vs,T,cap,h1,h2,h3,h4,h5,h6,h7⟩
 ·refine fin none (fun c hc=>by cases hc) (fun c hc=>by cases hc) ⟨hd,rfl,by simp, .inl ⟨rfl,a,0,hdv.trans ha⟩⟩
 ·have hclt:c < w.heap.size:=(g.obj m _ hob).2.inside c (by rw [h2];simp)
  have hch:(w.alloc (.cells u.cells te)).heap[c]?=some (.cells vs T (0,0)):=(hbel.block c hclt).trans h3
  refine fin (some c) (fun c' hc=>by cases hc;show c∈(loc m).bs;rw [show (loc m).bs = [c] from h2];simp) (fun c' hc=>by cases hc;exact ⟨by omega,vs,T,hch⟩) ⟨hd,rfl,h6, .inr ⟨c,0,cap,hdv.trans h1,h5,fun i y hy => ?_⟩⟩
  obtain ⟨us',r1,r2⟩:=h7 i y hy
  refine ⟨us',eG (mh hs).1 r1,fun j x hj=>⟨?_,by simp [jC]⟩⟩
  rw [cell_of_row _ c _ vs T (0,0) hch,Nat.zero_add];exact r2 j x hj
theorem wE {e:Ty} {s:iI e} {ys:List (D e)} {w:World} {b:Nat} {cs:List (Option Nat)} {hs:List Value} {vs:Array Value} (h:eD e s ys w b cs hs vs) (hl:ys.length * e.size<=vs.size) :
  ∃news:List Value,news.length=ys.length * e.size/\(∀(k:Nat) (u:Value),news[k]?=some u->vs[k]?=some u)/\(∀(k:Nat) (u:Value),k < ys.length * e.size->vs[k]?=some u->news[k]?=some u)/\∀u∈news,u.oneCell'=true:=by
 refine ⟨vs.toList.take (ys.length * e.size),by simp;omega,fun k u hk => ?_,fun k u hk hu => ?_,fun u hu => ?_⟩
 ·rw [List.getElem?_take] at hk
  split at hk
  ·simpa using hk
  ·cases hk
 ·rw [List.getElem?_take,if_pos hk];simpa using hu
 ·obtain ⟨k,hk,rfl⟩:=List.getElem_of_mem hu
  have hlen:(vs.toList.take (ys.length * e.size)).length=ys.length * e.size:=by simp;omega
  have hk':k < ys.length * e.size:=by omega
  have hpos:0 < e.size:=by
   rcases Nat.eq_zero_or_pos e.size with h0 | h0
   ·rw [h0] at hk';omega
   ·exact h0
  have hi:k / e.size < ys.length:=Nat.div_lt_of_lt_mul (by rw [Nat.mul_comm];exact hk')
  obtain ⟨c,hh,us,_,_,_,h1,h2⟩:=h.row _ _ (List.getElem?_eq_getElem hi)
  have hjlt:k % e.size < us.length:=by rw [h1.length];exact Nat.mod_lt _ hpos
  have:=h2 _ _ (List.getElem?_eq_getElem hjlt)
  rw [show k / e.size * e.size + k % e.size=k from by rw [Nat.mul_comm];exact Nat.div_add_mod k e.size] at this
  have h3:(vs.toList.take (ys.length * e.size))[k]?=some us[k % e.size]:=by rw [List.getElem?_take,if_pos hk'];simpa using this
  rw [List.getElem?_eq_getElem hk] at h3
  rw [Option.some.inj h3]
  exact h1.fu _ (List.getElem_mem hjlt)
theorem eD.join {e:Ty} {s:iI e} {xs ys:List (D e)} {w w':World} {b1 b2 b':Nat} {cs1 cs2:List (Option Nat)} {hs1 hs2:List Value} {vs1 vs2 vs':Array Value}
  (h1:eD e s xs w b1 cs1 hs1 vs1) (h2:eD e s ys w b2 cs2 hs2 vs2)
  (hd:∀c:Nat,(∃i:Nat,cs1[i]?=some (some c))->(∃j:Nat,cs2[j]?=some (some c))->False)
  (hb:∀c:Nat,((∃i:Nat,cs1[i]?=some (some c))\/(∃j:Nat,cs2[j]?=some (some c)))->c≠b'/\w'.heap[c]?=w.heap[c]?)
  (hv1:∀k u,k < xs.length * e.size->vs1[k]?=some u->vs'[k]?=some u)
  (hv2:∀k u,k < ys.length * e.size->vs2[k]?=some u->vs'[xs.length * e.size + k]?=some u) :
  eD e s (xs++ys) w' b' (cs1++cs2) (hs1++hs2) vs':=by
 have get:∀(i:Nat) (c:Nat),(cs1++cs2)[i]?=some (some c)->(i < xs.length/\cs1[i]?=some (some c))\/(xs.length<=i/\cs2[i - xs.length]?=some (some c)):=by
  intro i c hi
  rw [List.getElem?_append,h1.cl] at hi
  split at hi
  ·rename_i hlt;exact .inl ⟨hlt,hi⟩
  ·rename_i hlt;exact .inr ⟨by omega,hi⟩
 refine ⟨by simp [h1.hl,h2.hl],by simp [h1.cl,h2.cl],fun i j c hi hj => ?_,fun i c hi => ?_,fun i y hy => ?_⟩
 ·rcases get i c hi with ⟨a1,a2⟩ | ⟨a1,a2⟩ <;> rcases get j c hj with ⟨b1,b2⟩ | ⟨b1,b2⟩
  ·exact h1.inj i j c a2 b2
  ·exact (hd c ⟨_,a2⟩ ⟨_,b2⟩).elim
  ·exact (hd c ⟨_,b2⟩ ⟨_,a2⟩).elim
  ·have:=h2.inj _ _ c a2 b2;omega
 ·rcases get i c hi with ⟨a1,a2⟩ | ⟨a1,a2⟩
  ·obtain ⟨k1,k2⟩:=hb c (.inl ⟨_,a2⟩)
   rw [k2];exact ⟨k1,(h1.rS _ c a2).2⟩
  ·obtain ⟨k1,k2⟩:=hb c (.inr ⟨_,a2⟩)
   rw [k2];exact ⟨k1,(h2.rS _ c a2).2⟩
 ·rw [List.getElem?_append] at hy
  split at hy
  ·rename_i hlt
   obtain ⟨c,k,us,k1,k2,k3,k4,k5⟩:=h1.row i y hy
   refine ⟨c,k,us,by rw [List.getElem?_append,h1.cl,if_pos hlt];exact k1,by rw [List.getElem?_append,h1.hl,if_pos hlt];exact k2,k3,k4.frame (mK fun b e'=>(hb b (.inl ⟨i,by rw [k1,e']⟩)).2),fun j u hj => ?_⟩
   refine hv1 _ u ?_ (k5 j u hj)
   have:=aE hj
   rw [k4.length] at this
   have:(i + 1) * e.size<=xs.length * e.size:=Nat.mul_le_mul_right _ hlt
   rw [Nat.add_mul] at this
   omega
  ·rename_i hlt
   have hil:=aE hy
   obtain ⟨c,k,us,k1,k2,k3,k4,k5⟩:=h2.row _ y hy
   refine ⟨c,k,us,by rw [List.getElem?_append,h1.cl,if_neg hlt];exact k1,by rw [List.getElem?_append,h1.hl,if_neg hlt];exact k2,k3,k4.frame (mK fun b e'=>(hb b (.inr ⟨_,by rw [k1,e']⟩)).2),fun j u hj => ?_⟩
   have e1:i * e.size + j=xs.length * e.size + ((i - xs.length) * e.size + j):=by
    rw [<-Nat.add_assoc,<-Nat.add_mul,show xs.length + (i - xs.length)=i from by omega]
   rw [e1]
   refine hv2 _ u ?_ (k5 j u hj)
   have:=aE hj
   rw [k4.length] at this
   have:(i - xs.length + 1) * e.size<=ys.length * e.size:=Nat.mul_le_mul_right _ hil
   rw [Nat.add_mul] at this
   omega
theorem xV (hok:TyOK P cx) {O:ah} {st:St} {loc:Nat->Loc} {w:World} (g:Good cx.eT X (ae O st loc w)) (hO:bZ O w)
  {t ty:TypeId} {n m:Nat} {K:SV->St->VC} {vs vx:Value} (hs:CR cx.eT (ae O st loc w) (.xd n .top) vs) (hx:CR cx.eT (ae O st loc w) (.xd m .top) vx) (h:(vH cx st t n m K).holds) :
  ∃sv v st' loc' w',(K sv st').holds/\st'.env=st.env/\Good cx.eT X (ae O st' loc' w')/\Tr (ae O st loc w) (ae O st' loc' w')/\bH cx.eT (ae O st' loc' w') sv v/\
   (Builtin.append_ #[t,t] ty #[vs,vx]).run P w = .ok v w':=by
 unfold vH at h
 split at h
 case h_2=>exact h.elim
 rename_i e e1 xs e2 ys ht hob1 hob2
 obtain ⟨te,ti,td,hu,hf⟩:=cX hok ht
 obtain ⟨z,hz,hzr⟩:=hf.zero
 have hzs:z.cells.size=e.size:=by
  rw [<-Array.length_toList]
  exact (fh (S:=ae O st loc w) (cx:=cx) hzr).length.symm.trans (dC e)
 split at h
 case h_2=>exact h.elim
 rename_i hb1 hb2 hnm
 have hnm:n≠m:=fun e'=>by subst e';rw [Nat.beq_refl] at hnm;cases hnm
 have he1:e1=e:=by have:=Ty.eq_of_beq hb1;cases this;rfl
 subst he1
 have he2:e2=e1:=by have:=Ty.eq_of_beq hb2;cases this;rfl
 subst he2
 rw [cF,cF] at h
 obtain ⟨⟨hpos,hle⟩,h⟩:=h
 have hd1:=X.deep.1 (g.obj n _ hob1).2
 have hd2:=X.deep.1 (g.obj m _ hob2).2
 obtain ⟨_,s,hee,hsp⟩:=mL hd1
 cases hee
 obtain ⟨d2⟩:=nO hsp hd2 hpos
 have hvx:vx=d2.top:=by
  obtain ⟨hs',hl⟩:=hx.2 _ _ hob2
  have hl:=d2.lv.symm.trans hl
  simp at hl
  exact hl.1.symm
 have hvx:vx = .slice (some ⟨d2.b,0,none⟩) (List.length ys) d2.cap:=hvx.trans d2.tv
 have hys:List.length ys * e2.size<=d2.vs.size:=by rw [d2.size];exact Nat.mul_le_mul_right _ d2.fit
 obtain ⟨news,hn1,hn2,hn3,hn4⟩:=wE d2.rows hys
 have hnews:∀j u,news[j]?=some u->w.cell? ((⟨d2.b,0,none⟩:Addr).add j)=some u:=fun j u hj=>by
  rw [Addr.add_lit,Nat.zero_add,cell_of_row w d2.b _ d2.vs d2.T (0,0) d2.heap];exact hn2 j u hj
 have hbytes:(List.length xs + List.length ys) * ti.bytes<=140737488355328:=by have:=Nat.mul_le_mul hle hf.bytes;omega
 have hm2:∀c:Nat,(∃j:Nat,d2.cs[j]?=some (some c))->c∈(loc m).bs:=fun c hc=>by
  rw [show (loc m).bs=_ from d2.lb];exact List.mem_cons_of_mem _ (cu.2 hc)
 have hlo:∀k oc',(k=n\/k=m)->look st.ag k=some oc'->oc'.lo=0:=by
  intro k oc' hk hl
  rcases hk with rfl | rfl
  ·rw [hob1] at hl;cases hl;rfl
  ·rw [hob2] at hl;cases hl;rfl
 have fin:∀(w':World) (b' cap' b1:Nat) (vs' vs1:Array Value) (T':TypeId) (cs1:List (Option Nat)) (hs1:List Value),eD e2 s xs w b1 cs1 hs1 vs1->
   w'.os=w.os->w'.output=w.output->w.heap.size<=w'.heap.size->(∀c:Nat,(∃i:Nat,cs1[i]?=some (some c))->c∈(loc n).bs)->
   ((b'∈(loc n).bs/\∀c:Nat,(∃i:Nat,cs1[i]?=some (some c))->c≠b')\/w.heap.size<=b')->(∀b,b < w.heap.size->b≠b'->w'.heap[b]?=w.heap[b]?)->
   w'.heap[b']?=some (.cells vs' T' (0,0))->vs'.size=cap' * e2.size->List.length xs + List.length ys<=cap'->
   (∀k u,k < List.length xs * e2.size->vs1[k]?=some u->vs'[k]?=some u)->(∀k u,k < List.length ys * e2.size->d2.vs[k]?=some u->vs'[List.length xs * e2.size + k]?=some u)->
   (Builtin.append_ #[t,t] ty #[vs,vx]).run P w = .ok (.slice (some ⟨b',0,none⟩) (List.length xs + List.length ys) cap') w'->
   ∃sv v st' loc' w',(K sv st').holds/\st'.env=st.env/\Good cx.eT X (ae O st' loc' w')/\Tr (ae O st loc w) (ae O st' loc' w')/\bH cx.eT (ae O st' loc' w') sv v/\
    (Builtin.append_ #[t,t] ty #[vs,vx]).run P w = .ok v w':=by
  intro w' b' cap' b1 vs' vs1 T' cs1 hs1 hrows hos hout hsize hin1 hb' hoth hheap' hsz' hcap' hv1 hv2 hrun
  have hin1':∀c:Nat,(∃i:Nat,cs1[i]?=some (some c))->c < w.heap.size:=fun c hc=>(g.obj n _ hob1).2.inside c (hin1 c hc)
  have hin2':∀c:Nat,(∃i:Nat,d2.cs[i]?=some (some c))->c < w.heap.size:=fun c hc=>(g.obj m _ hob2).2.inside c (hm2 c hc)
  have hne:∀c:Nat,((∃i:Nat,cs1[i]?=some (some c))\/(∃j:Nat,d2.cs[j]?=some (some c)))->c≠b'/\w'.heap[c]?=w.heap[c]?:=by
   intro c hc
   have hclt:c < w.heap.size:=hc.elim (hin1' c) (hin2' c)
   have hcb:c≠b':=by
    rcases hb' with ⟨k1,k2⟩ | k1
    ·rcases hc with hc | hc
     ·exact k2 c hc
     ·intro e'
      subst e'
      exact hnm (g.apart n m _ _ c hob1 hob2 k1 (hm2 c hc))
    ·omega
   exact ⟨hcb,hoth c hclt hcb⟩
  have hj:=hrows.join d2.rows (w':=w') (b':=b') (vs':=vs') (fun c h1 h2=>hnm (g.apart n m _ _ c hob1 hob2 (hin1 c h1) (hm2 c h2))) hne hv1 hv2
  obtain ⟨tr,gd⟩:=lP (w':=w') (oc:=.ext 0 (.slice e2) (xs++ys)) (l:=⟨.tuple (Value.slice (some ⟨b',0,none⟩) (List.length xs + List.length ys) cap' :: (hs1++d2.hs)).toArray,b' :: (cs1++d2.cs).filterMap id⟩) g hO n m hos hout hsize hlo
   (fun b hlt hb=>by
    refine hoth b hlt fun e' => ?_
    subst e'
    rcases hb' with ⟨k1,_⟩ | k1
    ·exact hb n _ (.inl rfl) hob1 k1
    ·omega)
   (fun b hbm=>by
    rcases List.mem_cons.1 hbm with rfl | hbm
    ·rcases hb' with ⟨k1,_⟩ | k1
     ·exact .inl ⟨n,_, .inl rfl,hob1,k1⟩
     ·exact .inr k1
    ·rw [List.filterMap_append] at hbm
     rcases List.mem_append.1 hbm with hbm | hbm
     ·exact .inl ⟨n,_, .inl rfl,hob1,hin1 b (cu.1 hbm)⟩
     ·exact .inl ⟨m,_, .inr rfl,hob2,hm2 b (cu.1 hbm)⟩)
  have gd:=gd (X.deep.2 ⟨s,hsp,_,_,rfl, .inr ⟨b',vs',T',cap',cs1++d2.cs,by rw [List.length_append],rfl,hheap',hsz',by rw [List.length_append];exact hcap',by rw [List.length_append];unfold av;omega,hj⟩⟩)
  exact ⟨_,_,_,_,_,h,rfl,gd,tr,⟨by simp [ae,fresh,aA],fun t' x' hy=>⟨hs1++d2.hs,by simp [ae,aP]⟩⟩,hrun⟩
 subst hvx
 obtain ⟨s',hsp',top,hs',hl1,hcase⟩:=hd1
 rw [hsp] at hsp'
 cases hsp'
 have hvs:vs=top:=by
  obtain ⟨hs'',hl⟩:=hs.2 _ _ hob1
  have hl:=hl1.symm.trans hl
  simp at hl
  exact hl.1.symm
 have hbel:∀(cells:Array Value),Below w.heap.size w (w.drew.alloc (.cells cells te)):=fun _=>(Below.refl _ w).drew.alloc (Nat.le_refl _) _
 rcases hcase with ⟨hx0,hh0,⟨a0,ha0⟩,hbs0⟩ | ⟨b1,vs1,T1,cap1,cs1,ht1,hbs1,hheap1,hsz1,hfit1,hbig1,hrows1⟩
 ·have hvs0:vs = .slice a0 0 0:=hvs.trans ha0
  subst hvs0
  subst hx0
  have hrun:=im (P:=P) (w:=w) (t:=t) (ty:=ty) hu hf.info hz a0 (a:=⟨d2.b,0,none⟩) (n:=List.length ys) (c:=d2.cap) (news:=news) (by rw [hn1,hf.size]) hnews hpos (by simp at hle;omega)
   (by have:=hbytes;simp only [List.length_nil,Nat.zero_add] at this;omega)
  have hc':List.length ys<=grownCap w (List.length ys) 0 te:=grownCap_ge w _ _ _
  have hB:=hbel (news.toArray++Builtin.zeroCells z.cells (grownCap w (List.length ys) 0 te - List.length ys))
  refine fin _ w.heap.size (grownCap w (List.length ys) 0 te) 0 _ #[] te [] [] ⟨rfl,rfl,fun i j c hi=>by simp at hi,fun i c hi=>by simp at hi,fun i y hy=>by simp at hy⟩ hB.os hB.output hB.size (fun c ⟨i,hi⟩=>by simp at hi)
   (.inr (Nat.le_refl _)) (fun b hlt _=>hB.block b hlt) (heap_alloc_new w.drew _) ?_ (by simpa using hc') (fun k u hk=>by simp at hk) (fun k u hk hu => ?_) (by rw [hrun];simp)
  ·simp only [Array.size_append,List.size_toArray,size_zeroCells,hzs,hn1,<-Nat.add_mul]
   congr 1;omega
  ·have:=hn3 k u hk hu
   simp only [List.length_nil,Nat.zero_mul,Nat.zero_add]
   rw [Array.getElem?_append,if_pos (by simpa using aE this)]
   simpa using this
 ·have hvs0:vs = .slice (some ⟨b1,0,none⟩) (List.length xs) cap1:=hvs.trans ht1
  subst hvs0
  have hxs:List.length xs * e2.size<=vs1.size:=by rw [hsz1];exact Nat.mul_le_mul_right _ hfit1
  obtain ⟨olds,ho1,ho2,ho3,_⟩:=wE hrows1 hxs
  have hmem1:∀c:Nat,(∃i:Nat,cs1[i]?=some (some c))->c∈(loc n).bs:=fun c hc=>by
   rw [show (loc n).bs=_ from hbs1];exact List.mem_cons_of_mem _ (cu.2 hc)
  by_cases hroom:List.length xs + List.length ys<=cap1
  ·have hmul:(List.length xs + List.length ys) * e2.size<=cap1 * e2.size:=Nat.mul_le_mul_right _ hroom
   rw [Nat.add_mul] at hmul
   have hfit:List.length xs * ti.size + news.length<=vs1.size:=by rw [hf.size,hsz1,hn1];exact hmul
   have hrun:=lG (P:=P) (ty:=ty) hu hf.info hheap1 (a:=⟨d2.b,0,none⟩) (c:=d2.cap) (by rw [hn1,hf.size]) hnews hn4 hroom hfit
   rw [hf.size] at hrun hfit
   generalize hcur':(vs1.toList.take (List.length xs * e2.size)++news++vs1.toList.drop (List.length xs * e2.size + news.length)).toArray=cur' at hrun
   have hget:∀k:Nat,cur'[k]?=if k < List.length xs * e2.size then vs1[k]? else if k < List.length xs * e2.size + news.length then news[k - List.length xs * e2.size]? else vs1[k]?:=by
    intro k
    rw [<-hcur',List.getElem?_toArray,dv _ _ _ _ (by simpa using hfit)]
    simp
   have hsz':cur'.size=vs1.size:=by
    rw [<-hcur'];simp only [List.size_toArray,List.length_append,List.length_take,List.length_drop,Array.length_toList];omega
   refine fin (w.setRow b1 cur') b1 cap1 b1 cur' vs1 T1 cs1 hs' hrows1 rfl rfl (by simp [World.setRow]) hmem1 (.inl ⟨by rw [show (loc n).bs=_ from hbs1];simp,fun c ⟨i,hi⟩=>(hrows1.rS i c hi).1⟩)
    (fun b _ hne=>setRow_other w b1 b cur' (fun e'=>hne e')) (setRow_heap w b1 vs1 cur' T1 (0,0) hheap1) (by rw [hsz',hsz1]) hroom (fun k u hk hu => ?_) (fun k u hk hu => ?_) hrun
   ·rw [hget,if_pos hk];exact hu
   ·rw [hget,if_neg (by omega),if_pos (by rw [hn1];omega),Nat.add_sub_cancel_left];exact hn3 k u hk hu
  ·have hrun:=run_append_grow (P:=P) w t ty te ti z hu hf.info hz ⟨b1,0,none⟩ (List.length xs) cap1 olds (by rw [ho1,hf.size])
    (fun j u hj=>by rw [Addr.add_lit,Nat.zero_add,cell_of_row w b1 _ vs1 T1 (0,0) hheap1];exact ho2 j u hj)
    ⟨d2.b,0,none⟩ (List.length ys) d2.cap news (by rw [hn1,hf.size]) hnews (by omega) (by omega) (growslice_fits (by omega) hbytes)
   have hc':List.length xs + List.length ys<=grownCap w (List.length xs + List.length ys) cap1 te:=grownCap_ge w _ _ _
   have hB:=hbel (olds.toArray++news.toArray++Builtin.zeroCells z.cells (grownCap w (List.length xs + List.length ys) cap1 te - (List.length xs + List.length ys)))
   refine fin _ w.heap.size (grownCap w (List.length xs + List.length ys) cap1 te) b1 _ vs1 te cs1 hs' hrows1 hB.os hB.output hB.size hmem1 (.inr (Nat.le_refl _)) (fun b hlt _=>hB.block b hlt) (heap_alloc_new w.drew _) ?_ hc'
    (fun k u hk hu => ?_) (fun k u hk hu => ?_) hrun
   ·simp only [Array.size_append,List.size_toArray,size_zeroCells,hzs,hn1,ho1,<-Nat.add_mul]
    congr 1;omega
   ·have:=ho3 k u hk hu
    rw [Array.getElem?_append,if_pos (by simp;have:=aE this;omega),Array.getElem?_append,if_pos (by simpa using aE this)]
    simpa using this
   ·have:=hn3 k u hk hu
    have hlt:=aE this
    rw [Array.getElem?_append,if_pos (by simp [ho1];omega),Array.getElem?_append,if_neg (by simp [ho1])]
    simp only [List.size_toArray,ho1,Nat.add_sub_cancel_left]
    simpa using this
theorem E0 {O:ah} {st:St} {loc:Nat->Loc} {w:World} {n b:Nat} {oc oc':OC} {cs':Array Value} (g:Good cx.eT X (ae O st loc w)) (hO:bZ O w)
  (hob:look st.ag n=some oc) (cY:b∈(loc n).bs) (hk:aw (loc n) (loc n) oc oc') (h0:oc.lo=0) (h0':oc'.lo=0) :
  Tr (ae O st loc w) (ae O (setObj st n oc') loc (w.setRow b cs'))/\
   (OR cx.eT X (ae O (setObj st n oc') loc (w.setRow b cs')) (loc n) oc'->Good cx.eT X (ae O (setObj st n oc') loc (w.setRow b cs'))):=by
 have hsz:(w.setRow b cs').heap.size=w.heap.size:=by simp [World.setRow]
 refine kn (S:=ae O st loc w) (S':=ae O (setObj st n oc') loc (w.setRow b cs')) (n:=n) (oc:=oc) (oc':=oc') (l':=loc n) g rfl hO hob
  (fun m=>jo st n m oc') (fun m => ?_) rfl (fun _=>iZ rfl) hk rfl rfl (by simp [ae,hsz]) ?_ ?_ ?_
 ·show loc m=_
  by_cases e:n=m
  ·rw [if_pos e,e]
  ·rw [if_neg e];rfl
 ·intro b' _ hb'
  exact setRow_other w b b' cs' (fun e=>hb' (by simp only [ae];rw [e];exact cY))
 ·intro b' o v _ ho;rw [h0] at ho;omega
 ·intro b' hb';exact .inl ⟨hb',by omega⟩
theorem ug {O:ah} {st:St} {loc:Nat->Loc} {w:World} (g:Good cx.eT X (ae O st loc w)) (hO:bZ O w)
  {t:TypeId} {ty:Ty} {ti:TypeInfo} {td:TypeDesc} (hf:Fit P t ty ti td) {n i j:Nat} {v:aZ} {K:SV->St->VC} {vx vv:Value} (hx:CR cx.eT (ae O st loc w) (.xd n (.cell i j)) vx) (hv:dr cx.eT (ae O st loc w) v vv)
  (h:(qd st n i j ty v K).holds) :
  ∃st' loc' w',(K (.s (.one .any)) st').holds/\st'.env=st.env/\Good cx.eT X (ae O st' loc' w')/\Tr (ae O st loc w) (ae O st' loc' w')/\(Instr.storeAt t vx vv).run P w = .ok () w':=by
 unfold qd at h
 split at h
 case h_2=>exact h.elim
 rename_i e xs hob
 split at h
 case h_2=>exact h.elim
 rename_i s hsp
 split at h
 case h_2=>exact h.elim
 rename_i z hz hb
 have:=Ty.eq_of_beq hb
 subst this
 obtain ⟨⟨hi,hj⟩,h⟩:=h
 obtain ⟨hpl,hsz1⟩:=mh hsp
 have hgi:=List.getElem?_eq_getElem hi
 rw [eH hgi] at h hj
 have hd:=X.deep.1 (g.obj n _ hob).2
 obtain ⟨d⟩:=nO hsp hd (by omega)
 obtain ⟨top,hs',b,o,k0,c0,hl,hget,hvx⟩:=hx.2 _ _ hob
 have hl:=d.lv.symm.trans hl
 simp at hl
 obtain ⟨_,rfl⟩:=hl
 obtain ⟨c,hh,us,k1,k2,k3,k4,k5⟩:=d.rows.row i _ hgi
 rw [hget] at k2
 cases k2
 have hsl:=yz hsp k4 k3
 obtain ⟨v1,hv1,hbig,hsl2⟩:=hsl
 simp at hv1
 subst hv1
 rcases hsl2 with ⟨h0,_⟩ | ⟨b2,o2,cap,hv2,hcap,hrow⟩
 ·rw [h0] at hj;simp at hj
 simp at hv2
 obtain ⟨⟨rfl,rfl⟩,rfl,rfl⟩:=hv2
 have hgj:=List.getElem?_eq_getElem hj
 obtain ⟨u1,hu1,hr1⟩:=hrow j _ hgj
 rw [hsz1,Nat.mul_one] at hr1
 have hu1l:u1.length=1:=by rw [hu1.length,hsz1]
 have hcb:c=some b:=by
  match u1,hu1l with
  | [x],_=>have:=(hr1 0 x rfl).2;unfold jC at this;exact (Classical.not_not.1 this).symm
 subst hcb
 obtain ⟨hbb,vc,Tc,hheap⟩:=d.rows.rS i b k1
 have hvr:=VR.cells (fP hz hv)
 have hul:vv.cells.toList.length=1:=by rw [hvr.length,hsz1]
 have cellAt:∀i' y,(s.get xs[i])[i']?=some y->∃us',R 0 s.t y (jC (some b)) w us'/\us'.length=1/\∀u,us'[0]?=some u->vc[o + i']?=some u:=by
  intro i' y hy
  obtain ⟨us',r1,r2⟩:=hrow i' y hy
  refine ⟨us',r1,by rw [r1.length,hsz1],fun u hu => ?_⟩
  have:w.cell? ⟨b,o + i' * s.t.size + 0,none⟩=some u:=(r2 0 u hu).1
  rw [hsz1,Nat.mul_one,Nat.add_zero,cell_of_row w b _ vc Tc (0,0) hheap] at this
  exact this
 have hfit:o + j + vv.cells.toList.length<=vc.size:=by
  obtain ⟨us',_,r2,r3⟩:=cellAt j _ hgj
  have:=(Array.getElem?_eq_some_iff.1 (r3 _ (List.getElem?_eq_getElem (show 0 < us'.length by omega)))).1
  omega
 have cY:b∈(loc n).bs:=by rw [show (loc n).bs=_ from d.lb];exact List.mem_cons_of_mem _ (cu.2 ⟨i,k1⟩)
 subst hvx
 have hrun:=run_store hf (b:=b) (o:=o + j) rfl hvr.length hvr.fu hheap hfit
 generalize hvc':(vc.toList.take (o + j)++vv.cells.toList++vc.toList.drop (o + j + vv.cells.toList.length)).toArray=vc' at hrun
 have hget':∀k:Nat,vc'[k]?=if k < o + j then vc[k]? else if k < o + j + vv.cells.toList.length then vv.cells.toList[k - (o + j)]? else vc[k]?:=by
  intro k
  rw [<-hvc',List.getElem?_toArray,dv _ _ _ _ (by simpa using hfit)]
  simp
 have hheap':=setRow_heap w b vc vc' Tc (0,0) hheap
 have hst:=E0 (oc':=.ext 0 (.slice e) (List.set xs i (s.put xs[i] ((s.get xs[i]).set j z)))) (cs':=vc') g hO hob cY (by simp [aw]) rfl rfl
 have hother:∀b',b'≠b->(w.setRow b vc').heap[b']?=w.heap[b']?:=fun b' hne=>setRow_other w b b' vc' hne
 have hnewrow:R 0 (.slice s.t) ((s.get xs[i]).set j z) (jC (some b)) (w.setRow b vc') [.slice (some ⟨b,o,none⟩) (s.get xs[i]).length c0]:=by
  refine ⟨_,rfl,by rw [List.length_set];exact hbig, .inr ⟨b,o,c0,by rw [List.length_set],by rw [List.length_set];exact hcap,fun i' y hy => ?_⟩⟩
  by_cases e':j=i'
  ·subst e'
   rw [List.getElem?_set_self hj] at hy
   cases hy
   refine ⟨vv.cells.toList,eG hpl hvr,fun q u hq=>⟨?_,by simp [jC]⟩⟩
   have hq':=aE hq
   rw [hsz1,Nat.mul_one,cell_of_row _ b _ vc' Tc (0,0) hheap',hget',if_neg (by omega),if_pos (by omega),show o + j + q - (o + j)=q from by omega]
   exact hq
  ·rw [List.getElem?_set_ne e'] at hy
   obtain ⟨us',r1,r2,r3⟩:=cellAt i' y hy
   refine ⟨us',eG hpl r1,fun q u hq=>⟨?_,by simp [jC]⟩⟩
   have hq':=aE hq
   have hq0:q=0:=by omega
   subst hq0
   rw [hsz1,Nat.mul_one,Nat.add_zero,cell_of_row _ b _ vc' Tc (0,0) hheap',hget']
   rw [hul]
   have:=r3 u hq
   by_cases h1:o + i' < o + j
   ·rw [if_pos h1];exact this
   ·rw [if_neg h1,if_neg (by omega)];exact this
 refine ⟨_,_,_,h,rfl,hst.2 (X.deep.2 ⟨s,hsp,d.top,d.hs,d.lv, .inr ⟨d.b,d.vs,d.T,d.cap,d.cs,by rw [List.length_set];exact d.tv,d.lb,?_,d.size,by rw [List.length_set];exact d.fit,by rw [List.length_set];exact d.av,?_⟩⟩),hst.1,hrun⟩
 ·exact (hother d.b (fun e'=>hbb e'.symm)).trans d.heap
 ·refine ⟨by rw [List.length_set];exact d.rows.hl,by rw [List.length_set];exact d.rows.cl,d.rows.inj,fun i' c' hi' => ?_,fun i' y hy => ?_⟩
  ·refine ⟨(d.rows.rS i' c' hi').1,?_⟩
   by_cases e':c'=b
   ·subst e';exact ⟨vc',Tc,hheap'⟩
   ·obtain ⟨vs',T',hh'⟩:=(d.rows.rS i' c' hi').2
    exact ⟨vs',T',(hother c' e').trans hh'⟩
  ·by_cases e':i=i'
   ·subst e'
    rw [List.getElem?_set_self hi] at hy
    cases hy
    exact ⟨some b,_,us,k1,hget,k3,G8 hsp k4 k3 hnewrow,k5⟩
   ·rw [List.getElem?_set_ne e'] at hy
    obtain ⟨c',h',us',q1,q2,q3,q4,q5⟩:=d.rows.row i' y hy
    refine ⟨c',h',us',q1,q2,q3,q4.frame (mK fun b' eb=>hother b' fun eb' => ?_),q5⟩
    subst eb'
    exact e' (d.rows.inj i i' b' k1 (by rw [q1,eb]))
end
end Go.Vg

namespace Go.Vg
open Go.RowKit
def oH (e:Ty):List (D (dD e))->List UInt8->Bool
 | [],_=>false
 | y :: r,k=>if y.1=k then true else oH e r k
def sY (e:Ty):List (D (dD e))->List UInt8->D e
 | [],_=>bp e
 | y :: r,k=>if y.1=k then y.2.1 else sY e r k
def fR (e:Ty):List (D (dD e))->List UInt8->D e->Int->List (D (dD e))
 | [],k,v,c=>[(k,v,c,())]
 | y :: r,k,v,c=>if y.1=k then (k,v,y.2.2) :: r else y :: fR e r k v c
def gQ (e:Ty):List (D (dD e))->List UInt8->List (D (dD e))
 | [],_=>[]
 | y :: r,k=>if y.1=k then r else y :: gQ e r k
def qe (e:Ty) (es:List (D (dD e))) (k:List UInt8) (c:Int):Int:=if oH e es k=true then c else c + 1
def Co (e:Ty):List (D (dD e))->Int->D (dD e)
 | [],_=>bp (dD e)
 | y :: r,s=>if y.2.2.1=s then y else Co e r s
def uh (e:Ty):List (D (dD e))->Int->Bool
 | [],_=>false
 | y :: r,s=>if y.2.2.1=s then true else uh e r s
def rj (e:Ty) (es:List (D (dD e))) (seen:List Int):List (D (dD e)):=es.filter fun y => !(seen.contains y.2.2.1)
def rk (l:List Int):Int:=l.getLastD 0
def mm (cx:Cx) (st:St) (t:TypeId) (c:C) (K:(e:Ty)->Nat->D (dZ e)->VC):VC:=
 match c with
 | .cV n=>match look cx.lf t with
  | some (_,te)=>match look cx.τ te,look st.ag n with
   | some e,some (.ext 1 t' x)=>match h:Ty.beq t' (dZ e),e.one with
    | true,false=>K e n (aX h x)
    | _,_ => .ff
   | _,_ => .ff
  | none => .ff
 | _ => .ff
def KM:Ty->Option Ty
 | .prod (.slice (.prod _ (.prod e _))) _=>some e
 | _=>none
def ui (st:St) (c:C) (K:(e:Ty)->Nat->List C->List Int->Int->D (dZ e)->VC):VC:=
 match c with
 | .cV k=>match look st.ag k with
  | some (.iter [.cV n] seen cl)=>match look st.ag n with
   | some (.ext 1 t' x)=>match KM t' with
    | some e=>match h:Ty.beq t' (dZ e) with
     | true=>K e k [.cV n] seen cl (aX h x)
     | false => .ff
    | none => .ff
   | _ => .ff
  | _ => .ff
 | _ => .ff
def E1 (st:St) (c:C) (K:SV->St->VC):VC:=
 ui st c fun e k cs seen cl d => .and (d.2.1=cl) (.both
  (.imp (rj e d.1 seen = []) (K (.gK [.one (.lit false)]) st))
  (.all (D (dD e)) fun y => .imp (y∈rj e d.1 seen) (K (.gK [.one (.lit true), .one (.d .str y.1), .one (.d e y.2.1)]) (setObj st k (.iter cs (seen++[y.2.2.1]) cl)))))
def uj (cx:Cx) (st:St) (o:Oper) (K:SV->St->VC):Option VC:=
 match o.op with
 | .makeMap t none=>some (match look cx.lf t with
  | some (_,te)=>match look cx.τ te with
   | some e=>match e.cg with
    | true=>K (.s (.one (.cV st.next))) (fresh st (.ext 1 (dZ e) ([],0,())))
    | false => .ff
   | none => .ff
  | none => .ff)
 | .lookup t m x true=>some (mm cx st t (bP st.env m) fun e _ d=>match nM .str (bP st.env x) with
  | some k=>K (.gK [.one (.d e (sY e d.1 k)), .one (.d .bool (oH e d.1 k))]) st
  | none => .ff)
 | .mapUpdate t m x v=>some (mm cx st t (bP st.env m) fun e n d=>match nM .str (bP st.env x),lF e (lL st.env v) with
  | some k,some y => .and (d.1.length < av) (K (.s (.one .any)) (setObj st n (.ext 1 (dZ e) (fR e d.1 k y d.2.1,qe e d.1 k d.2.1,()))))
  | _,_ => .ff)
 | .range t m=>some (mm cx st t (bP st.env m) fun _ n d=>K (.s (.one (.cV st.next))) (fresh st (.iter [.cV n] [] d.2.1)))
 | .next it false=>some (E1 st (bP st.env it) K)
 | .entry it=>some (ui st (bP st.env it) fun e _ _ seen cl d => .and (d.2.1=cl) (.and (seen≠[]) (.and (uh e d.1 (rk seen)=true)
   (K (.gK [.one (.d .str (Co e d.1 (rk seen)).1), .one (.d e (Co e d.1 (rk seen)).2.1)]) st))))
 | .call c=>match c.callee with
  | .builtin .delete=>match c.args.toList,c.argTypes.toList with
   | [m,x],t :: _=>some (mm cx st t (bP st.env m) fun e n d=>match nM .str (bP st.env x) with
    | some k=>K (.s (.one .any)) (setObj st n (.ext 1 (dZ e) (gQ e d.1 k,d.2.1,())))
    | none => .ff)
   | _,_=>some .ff
  | .builtin .len=>match c.args.toList,c.argTypes.toList with
   | [x],[t]=>match look cx.lf t with
    | some _=>some (mm cx st t (bP st.env x) fun _ _ d=>K (.s (.one (.d (.int .i64) (d.1.length:Int)))) st)
    | none=>none
   | _,_=>none
  | _=>none
 | _=>none
theorem nS {e:Ty} {e1 e2:TypeId} {x:D e} {A A':ah} {w w':World} {v:Value} (hs:e.cg=true) (h:VR e1 e x A w v):VR e2 e x A' w' v:=by
 unfold VR at h ⊢
 by_cases c:e.one=true
 ·rw [if_pos c] at h ⊢;exact eG hs h
 ·rw [if_neg c] at h ⊢;obtain ⟨cs,h1,h2⟩:=h;exact ⟨cs,h1,eG hs h2⟩
theorem sG.to {e:Ty} (hs:e.cg=true) {y:D (dD e)} {m:MapEntry} {w w':World} (h:sG e y m w):sG e y m w':=⟨h.key,nS hs h.val,h.born⟩
theorem dL.to {e:Ty} (hs:e.cg=true) {w w':World}:∀{x:List (D (dD e))} {ms:List MapEntry},dL e x ms w->dL e x ms w'
 | [],[],_=>trivial
 | _ :: _,_ :: _,⟨h1,h2⟩=>⟨h1.to hs,h2.to hs⟩
 | [],_ :: _,h=>h.elim
 | _ :: _,[],h=>h.elim
theorem dL.len {e:Ty} {w:World}:∀{x:List (D (dD e))} {ms:List MapEntry},dL e x ms w->x.length=ms.length
 | [],[],_=>rfl
 | _ :: _,_ :: _,⟨_,h2⟩=>by simp [h2.len]
 | [],_ :: _,h=>h.elim
 | _ :: _,[],h=>h.elim
theorem nu.inside {t:Ty} {x:D t} {l:Loc} {w:World} (h:nu t x l w):∀b∈l.bs,b < w.heap.size:=by
 obtain ⟨e,_,b,es,b9,hm⟩:=h
 intro b' hb'
 rw [hm.bs] at hb'
 simp at hb'
 subst hb'
 exact (Array.getElem?_eq_some_iff.1 hm.heap).1
theorem nu.frame {t:Ty} {x:D t} {l:Loc} {w w':World} (h:nu t x l w) (hb:∀b∈l.bs,w'.heap[b]?=w.heap[b]?):nu t x l w':=by
 obtain ⟨e,ht,b,es,b9,hm⟩:=h
 exact ⟨e,ht,b,es,b9,hm.cg,hm.lv,hm.bs,by rw [hb b (by rw [hm.bs];simp)];exact hm.heap,hm.b9,hm.nt.to hm.cg,hm.av,hm.old⟩
theorem I0 (a b:List UInt8):((⟨a.toArray⟩:ByteArray) == ⟨b.toArray⟩)=decide (a=b):=by
 rw [Bool.eq_iff_iff,Go.MapKept.bytes_beq]
 simp
theorem mO {e:Ty} {w:World} {k:List UInt8} (hk:k.length<=av):∀{x:List (D (dD e))} {ms:List MapEntry} (i:Nat),dL e x ms w->
  (oH e x k=false/\sY e x k=bp e/\Instr.findNow .string (.string ⟨k.toArray⟩) ms i=some none/\(∀v c,fR e x k v c=x++[(k,v,c,())])/\gQ e x k=x)\/
  (oH e x k=true/\∃j m,ms[j]?=some m/\Instr.findNow .string (.string ⟨k.toArray⟩) ms i=some (some (i + j,m.val))/\VR 0 e (sY e x k) Ix w m.val/\m.key = .string ⟨k.toArray⟩/\
   (∀v u c,VR 0 e v Ix w u->dL e (fR e x k v c) (ms.set j {m with key:=.string ⟨k.toArray⟩,val:=u}) w)/\(∀v c,(fR e x k v c).length=x.length)/\(∀v c,∀y∈fR e x k v c,∃y'∈x,y.2.2.1=y'.2.2.1)/\
   dL e (gQ e x k) (ms.eraseIdx j) w/\(∀y∈gQ e x k,y∈x)/\(gQ e x k).length<=x.length)
 | [],[],i,_ => .inl ⟨rfl,rfl,rfl,fun _ _=>rfl,rfl⟩
 | y :: r,m :: ms,i,⟨h1,h2⟩=>by
  have hkey:Instr.sameNow .string (.string ⟨k.toArray⟩) m.key=some (decide (y.1=k)):=by
   rw [h1.key.1]
   show some _=_
   rw [I0]
   congr 1
   rw [Bool.eq_iff_iff];simp [eq_comm]
  by_cases c:y.1=k
  ·right
   refine ⟨by simp [oH,c],0,m,rfl,by simp [Instr.findNow,hkey,c],by simp [sY,c];exact h1.val,by rw [h1.key.1,c],fun v u cc hv => ?_,fun v cc => ?_,fun v cc y' hy' => ?_,?_,fun y' hy' => ?_,?_⟩
   ·rw [fR,if_pos c];exact ⟨⟨⟨rfl,hk⟩,hv,h1.born⟩,h2⟩
   ·rw [fR,if_pos c];rfl
   ·rw [fR,if_pos c] at hy'
    rcases List.mem_cons.1 hy' with rfl | hy'
    ·exact ⟨y,by simp,rfl⟩
    ·exact ⟨y',by simp [hy'],rfl⟩
   ·rw [gQ,if_pos c];exact h2
   ·rw [gQ,if_pos c] at hy';simp [hy']
   ·rw [gQ,if_pos c];simp
  ·rcases mO hk (i + 1) h2 with ⟨k1,k2,k3,k4,k5⟩ | ⟨k1,j,m',k2,k3,k4,k5,k6,k7,k8,k9,k10,k11⟩
   ·left
    refine ⟨by simp [oH,c,k1],by simp [sY,c,k2],by simp [Instr.findNow,hkey,c,k3],fun v cc=>by simp [fR,c,k4],by simp [gQ,c,k5]⟩
   ·right
    refine ⟨by simp [oH,c,k1],j + 1,m',by simpa using k2,by simp [Instr.findNow,hkey,c,k3];omega,by simpa [sY,c] using k4,k5,fun v u cc hv => ?_,fun v cc => ?_,fun v cc y' hy' => ?_,?_,fun y' hy' => ?_,?_⟩
    ·rw [fR,if_neg c];exact ⟨h1,k6 v u cc hv⟩
    ·rw [fR,if_neg c];simp [k7]
    ·rw [fR,if_neg c] at hy'
     rcases List.mem_cons.1 hy' with rfl | hy'
     ·exact ⟨y',by simp,rfl⟩
     ·obtain ⟨y2,h3,h4⟩:=k8 v cc y' hy'
      exact ⟨y2,by simp [h3],h4⟩
    ·rw [gQ,if_neg c];exact ⟨h1,k9⟩
    ·rw [gQ,if_neg c] at hy'
     rcases List.mem_cons.1 hy' with rfl | hy'
     ·simp
     ·simp [k10 y' hy']
    ·rw [gQ,if_neg c];simp;omega
 | [],_ :: _,_,h=>h.elim
 | _ :: _,[],_,h=>h.elim
theorem dL.snoc {e:Ty} {w:World} {y:D (dD e)} {m:MapEntry} (hy:sG e y m w):∀{x:List (D (dD e))} {ms:List MapEntry},dL e x ms w->dL e (x++[y]) (ms++[m]) w
 | [],[],_=>⟨hy,trivial⟩
 | _ :: _,_ :: _,⟨h1,h2⟩=>⟨h1,h2.snoc hy⟩
 | [],_ :: _,h=>h.elim
 | _ :: _,[],h=>h.elim
section
variable {X:Ext} {P:Program} {cx:Cx}
theorem wF {O:ah} {st:St} {loc:Nat->Loc} {w w':World} {n b:Nat} {oc oc':OC} (g:Good cx.eT X (ae O st loc w)) (hO:bZ O w)
  (hob:look st.ag n=some oc) (cY:(loc n).bs = [b]) (hk:aw (loc n) (loc n) oc oc') (h0:oc.lo=0) (h0':oc'.lo=0) (hos:w'.os=w.os) (hout:w'.output=w.output) (hsz:w'.heap.size=w.heap.size)
  (hoth:∀b',b'≠b->w'.heap[b']?=w.heap[b']?) :
  Tr (ae O st loc w) (ae O (setObj st n oc') loc w')/\
   (OR cx.eT X (ae O (setObj st n oc') loc w') (loc n) oc'->Good cx.eT X (ae O (setObj st n oc') loc w')):=by
 refine kn (S:=ae O st loc w) (S':=ae O (setObj st n oc') loc w') (n:=n) (oc:=oc) (oc':=oc') (l':=loc n) g rfl hO hob
  (fun m=>jo st n m oc') (fun m => ?_) rfl (fun _=>iZ rfl) hk hos hout (by simp [ae,hsz]) ?_ ?_ ?_
 ·show loc m=_
  by_cases e:n=m
  ·rw [if_pos e,e]
  ·rw [if_neg e];rfl
 ·intro b' _ hb'
  exact hoth b' (fun e=>hb' (by simp only [ae];rw [cY,e];simp))
 ·intro b' o v _ ho;rw [h0] at ho;omega
 ·intro b' hb';exact .inl ⟨hb',by omega⟩
structure Iz (cx:Cx) (P:Program) (S:aH) (st:St) (t:TypeId) (v:Value) (e:Ty) (n:Nat) (d:D (dZ e)) where
 kt:TypeId
 te:TypeId
 b:Nat
 es:Array MapEntry
 b9:Nat
 du:P.underlying t=some (.map kt te)
 key:P.underlying kt=some .string
 fit:look cx.τ te=some e
 one:e.one=false
 ob:S.ob n=some (.ext 1 (dZ e) d)
 val:v = .map (some b)
 md:yt e d (S.loc n) S.w b es b9
 zero:∃i cs,P.info? te=some i/\i.zero=some (.agg cs)
theorem Cp {e:Ty} {x:D (dZ e)} {l:Loc} {w:World} (h:nu (dZ e) x l w):∃b es b9,yt e x l w b es b9:=by
 obtain ⟨e',he,h⟩:=h
 have:e=e':=by injection he with h1 _;injection h1 with h1;injection h1 with _ h1;injection h1
 subst this
 exact h
theorem jM (hok:TyOK P cx) {O:ah} {st:St} {loc:Nat->Loc} {w:World} (g:Good cx.eT X (ae O st loc w)) {t:TypeId} {c:C} {v:Value} {K:(e:Ty)->Nat->D (dZ e)->VC} (hc:CR cx.eT (ae O st loc w) c v)
  (h:(mm cx st t c K).holds):∃e n d,(K e n d).holds/\Nonempty (Iz cx P (ae O st loc w) st t v e n d):=by
 unfold mm at h
 split at h
 case h_2=>exact h.elim
 rename_i n
 split at h
 case h_2=>exact h.elim
 rename_i kt te hm
 obtain ⟨h1,h2,h3⟩:=hok.lf _ _ _ hm
 split at h
 case h_2=>exact h.elim
 rename_i e t' x hte hob
 split at h
 case h_2=>exact h.elim
 rename_i hb ho
 have:=Ty.eq_of_beq hb
 subst this
 obtain ⟨b,es,b9,hd⟩:=Cp (X.map.1 (g.obj _ _ hob).2)
 exact ⟨e,n,_,h,⟨⟨kt,te,b,es,b9,h1,h2,hte,ho,by rw [ec];exact hob,(hc.2 _ hob rfl).trans hd.lv,by rw [ec];exact hd,h3⟩⟩⟩
theorem vI {S:aH} {c:C} {k:List UInt8} {v:Value} (h:nM .str c=some k) (hc:CR cx.eT S c v):v = .string ⟨k.toArray⟩/\k.length<=av:=by
 have:=VR.one rfl (kq h hc)
 obtain ⟨h1,h2⟩:=this
 exact ⟨by simpa using h1,h2⟩
theorem qf {kt:TypeId} (hk:P.underlying kt=some .string) (em:Bool) (s:ByteArray) (w:World):(Instr.checkKey em 10000 kt (.string s)).run P w = .ok () w:=
 Go.MapKept.run_checkKey (d:=.string) hk (by simp [Go.MapKept.IsKey]) em 9999
theorem mP {t kt te:TypeId} (hu:P.underlying t=some (.map kt te)) (hk:P.underlying kt=some .string) {w:World} {b b9:Nat} {es:Array MapEntry} (hb:w.heap[b]?=some (.map es b9)) {s:ByteArray} {r:Option (Nat × Value)}
  (hr:Instr.findNow .string (.string s) es.toList 0=some r) {z:Value} (hz:(zeroValue te).run P w = .ok z w) :
  (Instr.lookup t (.map (some b)) (.string s) true).run P w = .ok (.tuple #[match r with | some (_,v)=>v | none=>z, .bool r.isSome]) w:=by
 unfold Instr.lookup
 simp only [Sem.run_bind,run_underlying hu,Result.andThen_ok,Go.MapKept.run_getObj_map hb,qf hk,Sem.run_pure,Go.MapKept.run_findKey hk hr]
 cases r with
 | none=>simp [hz]
 | some p=>rfl
theorem Dl:∀{e:Ty},e.cg=true->kQ e=true:=by
 intro e
 induction e with
 | prod a b iha ihb=>intro h;simp [Ty.cg] at h;simp [kQ,iha h.1,ihb h.2]
 | slice e _=>intro h;simp [Ty.cg] at h
 | di=>intro h;simp [Ty.cg] at h
 | err=>intro h;simp [Ty.cg] at h
 | _=>intro _;rfl
theorem Hi (hok:TyOK P cx) {S:aH} {st:St} {t:TypeId} {v:Value} {e:Ty} {n:Nat} {d:D (dZ e)} (m:Iz cx P S st t v e n d) (w:World):∃z,(zeroValue m.te).run P w = .ok z w/\∀eT A w',VR eT e (bp e) A w' z:=by
 obtain ⟨_,ti,_,hf,_⟩:=cj hok m.fit
 obtain ⟨z,hz,hzr⟩:=hf.zero
 obtain ⟨i,cs,hi,hc⟩:=m.zero
 rw [hf.info] at hi
 cases hi
 rw [hz] at hc
 cases hc
 have hno:=Dl m.md.cg
 refine ⟨.agg cs,by simp [zeroValue,typeInfo,hf.info,hz],fun eT A w' => ?_⟩
 unfold VR
 rw [if_neg (by rw [m.one];simp)]
 exact ⟨cs,rfl,uc hzr hno⟩
theorem xW {es:Array MapEntry} {j:Nat} {m:MapEntry} (f:MapEntry->MapEntry) (h:es.toList[j]?=some m):(es.modify j f).toList=es.toList.set j (f m):=by
 have h':es[j]?=some m:=by rw [<-Array.getElem?_toList];exact h
 rw [Array.toList_modify]
 exact Go.ChangeMaps.modify_eq_set f es.toList j m h
theorem mQ {t kt te:TypeId} (hu:P.underlying t=some (.map kt te)) (hk:P.underlying kt=some .string) {w:World} {b b9:Nat} {es:Array MapEntry} (hb:w.heap[b]?=some (.map es b9)) {s:ByteArray} {v:Value}
  {es':Array MapEntry} {clk':Nat} (h:(Instr.findNow .string (.string s) es.toList 0=some none/\es'=es.push {key:=.string s,val:=v,born:=b9}/\clk'=b9 + 1)\/
   ∃j m,Instr.findNow .string (.string s) es.toList 0=some (some (0 + j,m.val))/\es.toList[j]?=some m/\m.key = .string s/\es'=es.modify j (fun e=>{e with key:=.string s,val:=v})/\clk'=b9) :
  (Instr.mapUpdate t (.map (some b)) (.string s) v).run P w = .ok () {w with heap:=w.heap.setIfInBounds b (.map es' clk')}:=by
 unfold Instr.mapUpdate
 simp only [Sem.run_bind,run_underlying hu,Result.andThen_ok,Go.MapKept.run_getObj_map hb,qf hk]
 rcases h with ⟨h1,rfl,rfl⟩ | ⟨j,m,h1,h2,h3,rfl,rfl⟩
 ·rw [Go.MapKept.run_findKey hk h1]
  simp only [Result.andThen_ok]
  exact Go.MapKept.run_setObj_map _ hb
 ·rw [Go.MapKept.run_findKey hk h1]
  have hm:es[j]?=some m:=by rw [<-Array.getElem?_toList];exact h2
  have hs:(Instr.keyThatStays (.string s) (.string s)).run P w = .ok (.string s) w:=by
   unfold Instr.keyThatStays
   rw [if_pos (by simp only [Instr.sameBits];exact (Go.MapKept.bytes_beq s s).2 rfl)]
   rfl
  simp only [Result.andThen_ok,Nat.zero_add,hm,Option.map_some,Option.getD_some,h3,Sem.run_bind,hs]
  exact Go.MapKept.run_setObj_map _ hb
theorem mR {t kt te ty:TypeId} {ats:Array TypeId} (hat:ats[0]?=some t) (hu:P.underlying t=some (.map kt te)) (hk:P.underlying kt=some .string) {w:World} {b b9:Nat} {es:Array MapEntry} (hb:w.heap[b]?=some (.map es b9)) {s:ByteArray}
  {es':Array MapEntry} (h:(Instr.findNow .string (.string s) es.toList 0=some none/\es'=es)\/∃j v,Instr.findNow .string (.string s) es.toList 0=some (some (0 + j,v))/\es'=es.eraseIdxIfInBounds j) :
  (Builtin.delete_ ats ty #[.map (some b), .string s]).run P w = .ok (.tuple #[]) {w with heap:=w.heap.setIfInBounds b (.map es' b9)}:=by
 unfold Builtin.delete_
 simp only [hat,List.getElem?_toArray,List.getElem?_cons_zero,List.getElem?_cons_succ,Sem.run_bind,run_underlying hu,Result.andThen_ok,Go.MapKept.run_getObj_map hb,qf hk]
 rcases h with ⟨h1,rfl⟩ | ⟨j,v,h1,rfl⟩
 ·rw [Go.MapKept.run_findKey hk h1]
  simp only [Result.andThen_ok,Sem.run_bind,Go.MapKept.run_setObj_map _ hb,Sem.run_pure]
 ·rw [Go.MapKept.run_findKey hk h1]
  simp only [Result.andThen_ok,Nat.zero_add,Sem.run_bind,Go.MapKept.run_setObj_map _ hb,Sem.run_pure]
theorem Hj {w:World} {b:Nat} {o:Obj} (hb:b < w.heap.size):({w with heap:=w.heap.setIfInBounds b o}:World).heap[b]?=some o:=by
 simp [hb]
theorem Bw {w:World} {b b':Nat} {o:Obj} (h:b'≠b):({w with heap:=w.heap.setIfInBounds b o}:World).heap[b']?=w.heap[b']?:=by
 simp only [Array.getElem?_setIfInBounds]
 rw [if_neg (fun e=>h e.symm)]
theorem map_set {O:ah} {st:St} {loc:Nat->Loc} {w:World} (g:Good cx.eT X (ae O st loc w)) (hO:bZ O w) {e:Ty} {n b b9 clk':Nat} {es es':Array MapEntry} {d:D (dZ e)}
  (hob:look st.ag n=some (.ext 1 (dZ e) d)) (hm:yt e d (loc n) w b es b9) {xs:List (D (dD e))} {c':Int} (hc:c'=(clk':Int)) (hents:dL e xs es'.toList w) (hbig:xs.length<=av) (hold:∀y∈xs,y.2.2.1 < c') :
  Tr (ae O st loc w) (ae O (setObj st n (.ext 1 (dZ e) (xs,c',()))) loc {w with heap:=w.heap.setIfInBounds b (.map es' clk')})/\
   Good cx.eT X (ae O (setObj st n (.ext 1 (dZ e) (xs,c',()))) loc {w with heap:=w.heap.setIfInBounds b (.map es' clk')}):=by
 have hlt:b < w.heap.size:=(Array.getElem?_eq_some_iff.1 hm.heap).1
 obtain ⟨t1,g1⟩:=wF (w':={w with heap:=w.heap.setIfInBounds b (.map es' clk')}) (oc':=.ext 1 (dZ e) (xs,c',())) g hO hob hm.bs ⟨rfl,rfl⟩ rfl rfl rfl rfl (by simp) (fun b' hb'=>Bw hb')
 exact ⟨t1,g1 (X.map.2 ⟨e,rfl,b,es',clk',hm.cg,hm.lv,hm.bs,Hj hlt,hc,hents.to hm.cg,hbig,hold⟩)⟩
theorem Hk {e:Ty} {xs:List (D (dD e))} {k:List UInt8} {v:D e} {c:Int} (h1:oH e xs k=false) (h2:∀v c,fR e xs k v c=xs++[(k,v,c,())]) (hold:∀y∈xs,y.2.2.1 < c):∀y∈fR e xs k v c,y.2.2.1 < qe e xs k c:=by
 intro y hy
 rw [h2] at hy
 unfold qe
 rw [h1]
 simp only [Bool.false_eq_true,if_false]
 rcases List.mem_append.1 hy with hy | hy
 ·have h3:(y.2.2.1:Int) < c:=hold y hy
  exact Int.lt_add_one_of_le (Int.le_of_lt h3)
 ·simp at hy;subst hy;exact Int.lt_add_one_of_le (Int.le_refl _)
theorem Cq {e:Ty} {w:World}:∀{x:List (D (dD e))} {ms:List MapEntry} {s:Nat},dL e x ms w->uh e x (s:Int)=true->∃m,ms.find? (fun m=>m.born == s)=some m/\sG e (Co e x (s:Int)) m w
 | y :: r,m :: ms,s,⟨h1,h2⟩,hb=>by
  by_cases c:m.born=s
  ·have c':y.2.2.1=(s:Int):=by rw [h1.born,c]
   exact ⟨m,by simp [c],by rw [Co,if_pos c'];exact h1⟩
  ·have c':¬ y.2.2.1=(s:Int):=fun h=>c (Int.ofNat.inj (h1.born.symm.trans h))
   rw [uh,if_neg c'] at hb
   obtain ⟨m',h3,h4⟩:=Cq h2 hb
   exact ⟨m',by simp [c,h3],by rw [Co,if_neg c'];exact h4⟩
 | [],[],_,_,hb=>by simp [uh] at hb
theorem wG {e:Ty} {w:World} {sn:Array Nat}:∀{x:List (D (dD e))} {ms:List MapEntry},dL e x ms w->dL e (rj e x (sn.toList.map fun (n:Nat)=>(n:Int))) (ms.filter fun m => !sn.contains m.born) w
 | [],[],_=>trivial
 | y :: r,m :: ms,⟨h1,h2⟩=>by
  have hc:(sn.toList.map fun (n:Nat)=>(n:Int)).contains y.2.2.1=sn.contains m.born:=by
   rw [Bool.eq_iff_iff,h1.born]
   simp only [List.contains_iff_mem,List.mem_map,Array.mem_toList_iff,Array.contains_iff_mem]
   exact ⟨fun ⟨a,h3,h4⟩=>by rw [<-Int.ofNat.inj h4];exact h3,fun h=>⟨_,h,rfl⟩⟩
  have ih:=wG (sn:=sn) h2
  unfold rj at ih ⊢
  rw [List.filter_cons,List.filter_cons,hc]
  cases sn.contains m.born with
  | true=>simp only [Bool.not_true,Bool.false_eq_true,if_false];exact ih
  | false=>simp only [Bool.not_false,if_true];exact ⟨h1,ih⟩
 | [],_ :: _,h=>h.elim
 | _ :: _,[],h=>h.elim
theorem sZ {e:Ty} {w:World}:∀{x:List (D (dD e))} {ms:List MapEntry} {m:MapEntry},dL e x ms w->m∈ms->∃y∈x,sG e y m w
 | y :: _,_ :: _,m,⟨h1,h2⟩,hm=>by
  rcases List.mem_cons.1 hm with rfl | hm
  ·exact ⟨y,by simp,h1⟩
  ·obtain ⟨y',h3,h4⟩:=sZ h2 hm
   exact ⟨y',by simp [h3],h4⟩
 | [],[],_,_,hm=>by simp at hm
structure J4 (S:aH) (v:Value) (e:Ty) (k:Nat) (cs:List C) (seen:List Int) (cl:Int) (d:D (dZ e)) where
 n:Nat
 b:Nat
 r:Nat
 es:Array MapEntry
 b9:Nat
 c:Nat
 sn:Array Nat
 ob:S.ob n=some (.ext 1 (dZ e) d)
 it:S.ob k=some (.iter cs seen cl)
 val:v = .pointer (some ⟨r,0,none⟩)
 md:yt e d (S.loc n) S.w b es b9
 hr:S.w.heap[r]?=some (.mapIter (some b) c sn c)
 cz:cl=(c:Int)
 wH:seen=sn.toList.map fun (n:Nat)=>(n:Int)
 cY:(S.loc k).bs = [r]
 KZ:(S.loc k).v = .pointer (some ⟨r,0,none⟩)
theorem uk {O:ah} {st:St} {loc:Nat->Loc} {w:World} (g:Good cx.eT X (ae O st loc w)) {c:C} {v:Value} {K:(e:Ty)->Nat->List C->List Int->Int->D (dZ e)->VC} (hc:CR cx.eT (ae O st loc w) c v)
  (h:(ui st c K).holds):∃e k cs seen cl d,(K e k cs seen cl d).holds/\(∃m,cs = [.cV m])/\Nonempty (J4 (ae O st loc w) v e k cs seen cl d):=by
 unfold ui at h
 split at h
 case h_2=>exact h.elim
 rename_i k
 split at h
 case h_2=>exact h.elim
 rename_i n seen cl hk
 split at h
 case h_2=>exact h.elim
 rename_i t' x hob
 split at h
 case h_2=>exact h.elim
 rename_i e hun
 split at h
 case h_2=>exact h.elim
 rename_i hb
 have:=Ty.eq_of_beq hb
 subst this
 obtain ⟨b,es,b9,hd⟩:=Cp (X.map.1 (g.obj _ _ hob).2)
 obtain ⟨r,m,c,sn,h1,h2,h3,h4,h5,h6⟩:=(g.obj _ _ hk).2
 have hmb:m=b:=by
  cases h4 with
  | cons h7 _ _=>
   have:=(h7.2 _ hob rfl).trans hd.lv
   cases this;rfl
 subst hmb
 exact ⟨e,k,_,seen,cl,_,h,⟨n,rfl⟩,⟨⟨n,m,r,es,b9,c,sn,by rw [ec];exact hob,hk,(hc.2 _ hk rfl).trans h1,by rw [ec];exact hd,h3,h5,h6,h2,h1⟩⟩⟩
theorem yR {S:aH} {eT:TypeId} {y:List UInt8} {v:Value} (h:v = .string ⟨y.toArray⟩/\y.length<=av):dr eT S (.one (.d .str y)) v:=by
 show VR eT .str y S.A S.w v
 rw [h.1]
 exact VR.aW rfl ⟨rfl,h.2⟩
theorem I1 {S:aH} {eT:TypeId} {n:Nat} (h:n<=av):bH eT S (.s (.one (.d (.int .i64) (n:Int)))) (.int .i64 (n:Int)):=by
 show VR eT (.int .i64) (n:Int) S.A S.w _
 refine VR.aW rfl ⟨rfl,?_⟩
 rw [yr] at h
 show (-9223372036854775808:Int)<=(n:Int)/\(n:Int)<=9223372036854775807
 omega
theorem yS {S:aH} {eT:TypeId} {x b:Bool} (h:x=b):dr eT S (.one (.d .bool x)) (.bool b):=by
 subst h
 show VR eT .bool x S.A S.w (.bool x)
 exact VR.aW rfl rfl
theorem Bx (hok:TyOK P cx) {O:ah} {st:St} {loc:Nat->Loc} {w:World} {a:Act} (g:Good cx.eT X (ae O st loc w)) (hO:bZ O w) (he:cJ cx.eT (ae O st loc w) st.env a)
  {o:Oper} {K:SV->St->VC} {vc:VC} (hm:uj cx st o K=some vc) (h:vc.holds) :
  ∃sv v st' loc' w',(K sv st').holds/\st'.env=st.env/\Good cx.eT X (ae O st' loc' w')/\Tr (ae O st loc w) (ae O st' loc' w')/\bH cx.eT (ae O st' loc' w') sv v/\
   ((execOp a.eval o).run P w = .ok (.value v) w'\/((execOp a.eval o).run P w = .ok .skip w'/\sv = .s (.one .any))):=by
 unfold uj at hm
 split at hm
 ·rename_i t hop
  cases hm
  split at h
  case h_2=>exact h.elim
  rename_i k te hmp
  split at h
  case h_2=>exact h.elim
  rename_i e hte
  split at h
  case h_2=>exact h.elim
  rename_i hs
  have hb:Below w.heap.size w (w.alloc (.map #[] 0)):=(Below.refl _ w).alloc (Nat.le_refl _) _
  obtain ⟨tr1,g1⟩:=cS (oc:=.ext 1 (dZ e) ([],0,())) (l:=⟨.map (some w.heap.size),[w.heap.size]⟩) g hO hb (by simp)
  have g1:=g1 (X.map.2 ⟨e,rfl,w.heap.size,#[],0,hs,rfl,rfl,heap_alloc_new w _,rfl,trivial,by simp,fun y hy=>by simp at hy⟩)
  refine ⟨_, .map (some w.heap.size),_,_,_,h,rfl,g1,tr1,⟨by show st.next < st.next + 1;omega,fun oc hoc _=>by simp [ae,aP]⟩, .inl ?_⟩
  simp [execOp,hop,Instr.makeMap]
 ·rename_i t m x hop
  cases hm
  obtain ⟨e,n,d,h1,⟨M⟩⟩:=jM (P:=P) hok g (aK he m) h
  split at h1
  case h_2=>exact h1.elim
  rename_i k hk
  obtain ⟨hv,hl⟩:=vI hk (aK he x)
  obtain ⟨z,hz,hzr⟩:=Hi hok M w
  rcases mO hl 0 M.md.nt with ⟨k1,k2,k3,k4,k5⟩ | ⟨k1,j,m',k2,k3,k4,k5,_⟩
  ·refine ⟨_, .tuple #[z, .bool false],st,loc,w,h1,rfl,g,Tr.refl _,⟨[z, .bool false],rfl, .cons (by rw [k2];exact hzr _ _ _) (.cons (yS k1) .nil)⟩, .inl ?_⟩
   have hrun:=mP (w:=w) M.du M.key M.md.heap k3 hz
   simp only [execOp,hop,Sem.run_bind,M.val,hv]
   rw [hrun]
   rfl
  ·refine ⟨_, .tuple #[m'.val, .bool true],st,loc,w,h1,rfl,g,Tr.refl _,⟨[m'.val, .bool true],rfl, .cons (nS M.md.cg k4) (.cons (yS k1) .nil)⟩, .inl ?_⟩
   have hrun:=mP (w:=w) M.du M.key M.md.heap k3 hz
   simp only [execOp,hop,Sem.run_bind,M.val,hv]
   rw [hrun]
   rfl
 ·rename_i t m x v hop
  cases hm
  obtain ⟨e,n,d,h1,⟨M⟩⟩:=jM (P:=P) hok g (aK he m) h
  split at h1
  case h_2=>exact h1.elim
  rename_i k y hk hy
  obtain ⟨hbig,h1⟩:=h1
  obtain ⟨hv,hl⟩:=vI hk (aK he x)
  have hvy:VR 0 e y Ix w (a.eval v):=nS M.md.cg (fP hy (fv he v))
  rcases mO hl 0 M.md.nt with ⟨k1,k2,k3,k4,k5⟩ | ⟨k1,j,m',k2,k3,k4,k5,k6,k7,k8,_⟩
  ·obtain ⟨t1,g1⟩:=map_set (es':=M.es.push {key:=.string ⟨k.toArray⟩,val:=a.eval v,born:=M.b9}) (clk':=M.b9 + 1) g hO M.ob M.md (xs:=fR e d.1 k y d.2.1) (c':=qe e d.1 k d.2.1)
    (by unfold qe;rw [k1,M.md.b9];rfl) (by rw [k4,Array.toList_push];exact dL.snoc ⟨⟨rfl,hl⟩,hvy,M.md.b9⟩ M.md.nt) (by rw [k4];simp;omega) (Hk k1 k4 M.md.old)
   refine ⟨_, .nilFunc,_,loc,_,h1,rfl,g1,t1,trivial, .inr ⟨?_,rfl⟩⟩
   have hrun:=mQ (w:=w) M.du M.key M.md.heap (v:=a.eval v) (.inl ⟨k3,rfl,rfl⟩)
   simp only [execOp,hop,Sem.run_bind,M.val,hv]
   rw [hrun]
   rfl
  ·obtain ⟨t1,g1⟩:=map_set (es':=M.es.modify j (fun e=>{e with key:=.string ⟨k.toArray⟩,val:=a.eval v})) (clk':=M.b9) g hO M.ob M.md (xs:=fR e d.1 k y d.2.1) (c':=qe e d.1 k d.2.1)
    (by unfold qe;rw [k1,M.md.b9];rfl) (by rw [xW _ k2];exact k6 y (a.eval v) _ hvy) (by rw [k7];exact M.md.av) (fun y' hy'=>by
     obtain ⟨y2,h3,h4⟩:=k8 _ _ y' hy'
     rw [h4];unfold qe;rw [k1];exact M.md.old y2 h3)
   refine ⟨_, .nilFunc,_,loc,_,h1,rfl,g1,t1,trivial, .inr ⟨?_,rfl⟩⟩
   have hrun:=mQ (w:=w) M.du M.key M.md.heap (v:=a.eval v) (.inr ⟨j,m',k3,k2,k5,rfl,rfl⟩)
   simp only [execOp,hop,Sem.run_bind,M.val,hv]
   rw [hrun]
   rfl
 ·rename_i t m hop
  cases hm
  have hc0:=aK he m
  obtain ⟨e,n,d,h1,⟨M⟩⟩:=jM (P:=P) hok g hc0 h
  have hb:Below w.heap.size w (w.alloc (.mapIter (some M.b) M.b9 #[] M.b9)):=(Below.refl _ w).alloc (Nat.le_refl _) _
  obtain ⟨tr1,g1⟩:=cS (oc:=.iter [.cV n] [] d.2.1) (l:=⟨.pointer (some ⟨w.heap.size,0,none⟩),[w.heap.size]⟩) g hO hb (by simp)
  have hx:CR cx.eT (ae O st loc w) (.cV n) (.map (some M.b)):=⟨(g.obj _ _ M.ob).1,fun oc hoc _=>M.md.lv.symm⟩
  have g1:=g1 ⟨w.heap.size,M.b,M.b9,#[],rfl,rfl,heap_alloc_new w _, .cons (hx.tr tr1) rfl .nil,M.md.b9,rfl⟩
  refine ⟨_, .pointer (some ⟨w.heap.size,0,none⟩),_,_,_,h1,rfl,g1,tr1,⟨by show st.next < st.next + 1;omega,fun oc hoc _=>by simp [ae,aP]⟩, .inl ?_⟩
  have hu:=M.du
  have hh:w.heap[M.b]?=some (.map M.es M.b9):=M.md.heap
  have hgo:(getObj M.b).run P w = .ok (.map M.es M.b9) w:=Go.MapKept.run_getObj_map hh
  simp only [execOp,hop,M.val,Instr.range,Sem.run_bind,run_underlying hu,Result.andThen_ok,hgo,Sem.run_pure]
  rfl
 ·rename_i it hop
  cases hm
  unfold E1 at h
  obtain ⟨e,k,cs,seen,cl,d,h1,⟨n0,rfl⟩,⟨M⟩⟩:=uk g (aK he it) h
  obtain ⟨cz,h1,h2⟩:=h1
  have hcc:M.b9=M.c:=Int.ofNat.inj (M.md.b9.symm.trans (cz.trans M.cz))
  have hold:∀x∈M.es.toList,x.born < M.c:=fun x hx=>by
   obtain ⟨y,hy,hyr⟩:=sZ M.md.nt hx
   have h3:=M.md.old y hy
   rw [hyr.born,M.md.b9,hcc] at h3
   exact Int.ofNat_lt.1 h3
  have hleft:dL e (rj e d.1 seen) (leftOf M.es M.sn).toList w:=by
   have:=wG (sn:=M.sn) M.md.nt
   rw [<-M.wH] at this
   unfold leftOf
   rw [Array.toList_filter]
   exact this
  have hrl:M.r < w.heap.size:=(Array.getElem?_eq_some_iff.1 M.hr).1
  rcases Go.run_next_at (P:=P) w o.type M.r M.b M.c M.c M.sn M.es M.b9 M.hr M.md.heap hold (Nat.le_refl _) with ⟨h3,h4⟩ | ⟨m,hm,w1,hw1,h4⟩
  ·have hnil:rj e d.1 seen = []:=List.length_eq_zero_iff.1 (by rw [hleft.len];simpa using h3)
   refine ⟨_, .tuple #[.bool false],st,loc,w,h1 hnil,rfl,g,Tr.refl _,⟨[.bool false],rfl, .cons rfl .nil⟩, .inl ?_⟩
   simp only [execOp,hop,M.val,Sem.run_bind,h4,Result.andThen_ok,Sem.run_pure]
  ·obtain ⟨y,hy,hyr⟩:=sZ hleft hm
   have hK:=h2 y hy
   have e1:w1.heap=w.heap/\w1.os=w.os/\w1.output=w.output:=by rcases hw1 with rfl | rfl <;> exact ⟨rfl,rfl,rfl⟩
   obtain ⟨t1,g1⟩:=wF (w':=Go.ChangeMaps.setBlock w1 M.r (.mapIter (some M.b) M.c (M.sn.push m.born) M.b9)) (oc':=.iter [.cV n0] (seen++[y.2.2.1]) cl) g hO M.it M.cY trivial rfl rfl e1.2.1 e1.2.2
    (by simp [Go.ChangeMaps.setBlock,e1.1]) (fun b' hb'=>by simp only [Go.ChangeMaps.setBlock,Array.getElem?_setIfInBounds,e1.1];rw [if_neg (fun e=>hb' e.symm)])
   have hor:=(g.obj _ _ M.it).2
   have hg1:=g1 (by
    obtain ⟨r',m0,c0,sn0,q1,q2,q3,q4,q5,q6⟩:=hor
    have hmb:m0=M.b:=by
     have hr':r'=M.r:=by have:=M.KZ.symm.trans q1;cases this;rfl
     subst hr'
     have:=M.hr.symm.trans q3
     cases this;rfl
    refine ⟨M.r,m0,M.c,M.sn.push m.born,M.KZ,M.cY,?_,q4.tr t1,M.cz,?_⟩
    ·show (Go.ChangeMaps.setBlock w1 M.r _).heap[M.r]?=_
     rw [hmb,hcc]
     simp only [Go.ChangeMaps.setBlock,Array.getElem?_setIfInBounds,e1.1]
     simp [hrl]
    ·rw [Array.toList_push,List.map_append,<-M.wH,hyr.born];rfl)
   refine ⟨_, .tuple #[.bool true,m.key,m.val],_,loc,_,hK,rfl,hg1,t1,⟨[.bool true,m.key,m.val],rfl, .cons rfl (.cons (yR hyr.key) (.cons (nS M.md.cg hyr.val) .nil))⟩, .inl ?_⟩
   simp only [execOp,hop,M.val,Sem.run_bind,h4,Result.andThen_ok,Sem.run_pure]
 ·rename_i it hop
  cases hm
  obtain ⟨e,k,cs,seen,cl,d,h1,⟨n0,rfl⟩,⟨M⟩⟩:=uk g (aK he it) h
  obtain ⟨cz,hne,hbo,h1⟩:=h1
  have hcc:M.b9=M.c:=Int.ofNat.inj (M.md.b9.symm.trans (cz.trans M.cz))
  have wH:M.sn.toList≠[]:=fun e0=>hne (by rw [M.wH,e0];rfl)
  have hlast:∃s,M.sn.back?=some s/\rk seen=(s:Int):=by
   refine ⟨M.sn.toList.getLast wH,?_,?_⟩
   ·rw [<-Array.getLast?_toList];exact List.getLast?_eq_some_getLast wH
   ·refine (congrArg rk M.wH).trans ?_
    unfold rk
    rw [List.getLastD_eq_getLast?,List.getLast?_map,List.getLast?_eq_some_getLast wH]
    rfl
  obtain ⟨s,hs1,hs2⟩:=hlast
  rw [hs2] at hbo h1
  obtain ⟨m,hm1,hm2⟩:=Cq M.md.nt hbo
  refine ⟨_, .tuple #[m.key,m.val],st,loc,w,h1,rfl,g,Tr.refl _,⟨[m.key,m.val],rfl, .cons (yR hm2.key) (.cons (nS M.md.cg hm2.val) .nil)⟩, .inl ?_⟩
  have hf:M.es.find? (fun m=>m.born == s)=some m:=by rw [<-Array.find?_toList];exact hm1
  have hr:=M.hr
  have hb:=M.md.heap
  simp only [ae] at hr hb
  simp only [execOp,hop,M.val,Instr.entry,getObj,Sem.run_bind,Sem.run,hr,hb,Result.andThen,hs1,hcc,bne_self_eq_false,Bool.false_eq_true,if_false,hf]
  rfl
 ·rename_i c hop
  split at hm
  ·rename_i hcal
   split at hm
   ·rename_i m x t ts harg hty
    cases hm
    obtain ⟨e,n,d,h1,⟨M⟩⟩:=jM (P:=P) hok g (aK he m) h
    split at h1
    case h_2=>exact h1.elim
    rename_i k hk
    obtain ⟨hv,hl⟩:=vI hk (aK he x)
    have ha:c.args = #[m,x]:=Array.toList_inj.1 harg
    have hat:c.argTypes[0]?=some t:=by rw [<-Array.getElem?_toList,hty];rfl
    have fin:∀es':Array MapEntry,dL e (gQ e d.1 k) es'.toList w->(gQ e d.1 k).length<=av->(∀y∈gQ e d.1 k,y∈d.1)->
      (∀ty,(Builtin.delete_ c.argTypes ty #[.map (some M.b), .string ⟨k.toArray⟩]).run P w = .ok (.tuple #[]) {w with heap:=w.heap.setIfInBounds M.b (.map es' M.b9)})->
      ∃sv v st' loc' w',(K sv st').holds/\st'.env=st.env/\Good cx.eT X (ae O st' loc' w')/\Tr (ae O st loc w) (ae O st' loc' w')/\bH cx.eT (ae O st' loc' w') sv v/\
       ((execOp a.eval o).run P w = .ok (.value v) w'\/((execOp a.eval o).run P w = .ok .skip w'/\sv = .s (.one .any))):=by
     intro es' h3 h4 h5 h6
     obtain ⟨t1,g1⟩:=map_set (es':=es') (clk':=M.b9) g hO M.ob M.md (xs:=gQ e d.1 k) (c':=d.2.1) M.md.b9 h3 h4 (fun y hy=>M.md.old y (h5 y hy))
     refine ⟨_, .tuple #[],_,loc,_,h1,rfl,g1,t1,trivial, .inl ?_⟩
     simp [execOp,hop,resolve,hcal,ha,invoke,builtin,M.val,hv,h6]
    rcases mO hl 0 M.md.nt with ⟨k1,k2,k3,k4,k5⟩ | ⟨k1,j,m',k2,k3,k4,k5,k6,k7,k8,k9,k10,k11⟩
    ·exact fin M.es (by rw [k5];exact M.md.nt) (by rw [k5];exact M.md.av) (fun y hy=>by rw [k5] at hy;exact hy) fun ty=>mR hat M.du M.key M.md.heap (.inl ⟨k3,rfl⟩)
    ·have hj:j < M.es.size:=by
      rcases Nat.lt_or_ge j M.es.toList.length with h' | h'
      ·simpa using h'
      ·rw [List.getElem?_eq_none h'] at k2;cases k2
     refine fin (M.es.eraseIdxIfInBounds j) ?_ (Nat.le_trans k11 M.md.av) k10 fun ty=>mR hat M.du M.key M.md.heap (.inr ⟨j,_,k3,rfl⟩)
     unfold Array.eraseIdxIfInBounds
     rw [dif_pos hj,Array.toList_eraseIdx]
     exact k9
   ·cases hm;exact h.elim
  ·rename_i hcal
   split at hm
   ·rename_i x t harg hty
    split at hm
    ·cases hm
     obtain ⟨e,n,d,h1,⟨M⟩⟩:=jM (P:=P) hok g (aK he x) h
     have ha:c.args = #[x]:=Array.toList_inj.1 harg
     have ht:c.argTypes = #[t]:=Array.toList_inj.1 hty
     have hsz:d.1.length=M.es.size:=by rw [M.md.nt.len];simp
     refine ⟨_, .int .i64 (d.1.length:Int),st,loc,w,h1,rfl,g,Tr.refl _,I1 M.md.av, .inl ?_⟩
     have hgo:(getObj M.b).run P w = .ok (.map M.es M.b9) w:=Go.MapKept.run_getObj_map M.md.heap
     simp [execOp,hop,resolve,hcal,ha,ht,invoke,builtin,Builtin.len_,run_underlying M.du,hgo,goInt,M.val,hsz]
    ·cases hm
   ·cases hm
  ·cases hm
 ·cases hm
end
end Go.Vg

namespace Go.Vg
open Go.RowKit
def s4 (cx:Cx) (st:St) (x:Operand) (ty:TypeId) (K:SV->St->VC):VC:=
 match ev st.env x,look cx.τ ty with
 | .s (.one .dY),some (.slice e)=>match e.cg with
  | true=>K (.s (.one (.ax st.next))) (fresh st (.ax e []))
  | false=>qb cx st x ty K
 | _,_ => .ff
def s5 (cx:Cx) (st:St) (t:TypeId) (n:Nat) (x:C) (K:SV->St->VC):VC:=
 match look cx.τ t with
 | some (.slice e)=>match e.cg,p5 st e x,look st.ag n with
  | true,some ys,some (.ax e' zs)=>match h:Ty.beq (.slice e') (.slice e) with
   | true => .and (0 < List.length ys/\List.length zs + List.length ys<=1000000000) (K (.s (.one (.ax st.next))) (fresh (aA (aA st n) n) (.ax e (aX h (a:=.slice e') zs++ys))))
   | false => .ff
  | _,_,_ => .ff
 | _ => .ff
section
variable {X:Ext} {P:Program} {cx:Cx}
theorem qg {O:ah} {st:St} {loc:Nat->Loc} {w:World} {a:Act} (g:Good cx.eT X (ae O st loc w)) (hO:bZ O w) (he:cJ cx.eT (ae O st loc w) st.env a)
  {x:Operand} {ty:TypeId} {K:SV->St->VC} (h:(s4 cx st x ty K).holds) :
  ∃sv st' loc',(K sv st').holds/\st'.env=st.env/\Good cx.eT X (ae O st' loc' w)/\Tr (ae O st loc w) (ae O st' loc' w)/\bH cx.eT (ae O st' loc' w) sv (a.eval x):=by
 have hx:=gM he x
 unfold s4 at h
 split at h
 case h_2=>exact h.elim
 rename_i e hl _
 rw [hl] at hx
 split at h
 ·obtain ⟨tr1,g1⟩:=cS (oc:=.ax e []) (l:=⟨.slice none 0 0,[]⟩) g hO (Below.refl _ w) (by simp)
  have g1:=g1 (.inl ⟨rfl,⟨none,rfl⟩,rfl⟩)
  refine ⟨_,_,_,h,rfl,g1,tr1,?_⟩
  rw [show a.eval x=_ from hx]
  exact ⟨by simp [ae,fresh],fun t ys hy=>by simp [ae,aP]⟩
 ·exact xU g hO he h
theorem yT (hok:TyOK P cx) {O:ah} {st:St} {loc:Nat->Loc} {w:World} (g:Good cx.eT X (ae O st loc w)) (hO:bZ O w)
  {t ty:TypeId} {n:Nat} {x:C} {K:SV->St->VC} {vs vx:Value} (hs:CR cx.eT (ae O st loc w) (.ax n) vs) (hx:CR cx.eT (ae O st loc w) x vx) (h:(s5 cx st t n x K).holds) :
  ∃sv v st' loc' w',(K sv st').holds/\st'.env=st.env/\Good cx.eT X (ae O st' loc' w')/\Tr (ae O st loc w) (ae O st' loc' w')/\bH cx.eT (ae O st' loc' w') sv v/\
   (Builtin.append_ #[t,t] ty #[vs,vx]).run P w = .ok v w':=by
 unfold s5 at h
 split at h
 case h_2=>exact h.elim
 rename_i e ht
 obtain ⟨te,ti,td,hu,hf⟩:=cX hok ht
 obtain ⟨z,hz,hzr⟩:=hf.zero
 have hzs:z.cells.size=e.size:=by
  rw [<-Array.length_toList]
  exact (fh (S:=ae O st loc w) (cx:=cx) hzr).length.symm.trans (dC e)
 split at h
 case h_2=>exact h.elim
 rename_i ys e' zs hsc hys hob
 split at h
 case h_2=>exact h.elim
 rename_i hb1
 have he1:e'=e:=by have:=Ty.eq_of_beq hb1;cases this;rfl
 subst he1
 rw [cF] at h
 obtain ⟨⟨hpos,hle⟩,h⟩:=h
 have hvl:=hs.2 _ _ hob
 have hbytes:(List.length zs + List.length ys) * ti.bytes<=140737488355328:=by have:=Nat.mul_le_mul hle hf.bytes;omega
 rcases oF g hys hx with ⟨rfl,_⟩ | ⟨b,o,cap,cs,hvx,cz,hcc,hrl,hone⟩
 ·simp at hpos
 have hnews:∀j u,cs[j]?=some u->w.cell? ((⟨b,o,none⟩:Addr).add j)=some u:=fun j u hj=>by rw [Addr.add_lit];exact hcc j u hj
 subst hvx
 have fin:∀(w':World) (b' cap':Nat) (vs':Array Value) (T':TypeId) (olds:List Value),olds.length=List.length zs * e'.size->cE cx.eT e' zs (ae O st loc w).A w olds->
   w'.os=w.os->w'.output=w.output->w.heap.size<=w'.heap.size->(b'∈(loc n).bs\/w.heap.size<=b')->(∀b,b < w.heap.size->b≠b'->w'.heap[b]?=w.heap[b]?)->
   w'.heap[b']?=some (.cells vs' T' (0,0))->vs'.size=cap' * e'.size->List.length zs + List.length ys<=cap'->(∀(j:Nat) u,(olds++cs)[j]?=some u->vs'[j]?=some u)->
   (Builtin.append_ #[t,t] ty #[vs, .slice (some ⟨b,o,none⟩) ys.length cap]).run P w = .ok (.slice (some ⟨b',0,none⟩) (List.length zs + List.length ys) cap') w'->
   ∃sv v st' loc' w',(K sv st').holds/\st'.env=st.env/\Good cx.eT X (ae O st' loc' w')/\Tr (ae O st loc w) (ae O st' loc' w')/\bH cx.eT (ae O st' loc' w') sv v/\
    (Builtin.append_ #[t,t] ty #[vs, .slice (some ⟨b,o,none⟩) ys.length cap]).run P w = .ok v w':=by
  intro w' b' cap' vs' T' olds ho1 ho3 hos hout hsize hb' hoth hheap' hsz' hcap' hv hrun
  obtain ⟨tr,gd⟩:=lP (w':=w') (oc:=.ax e' (zs++ys)) (l:=⟨.slice (some ⟨b',0,none⟩) (List.length zs + List.length ys) cap',[b']⟩) g hO n n hos hout hsize
   (fun k oc' hk hl=>by
    have:k=n:=by rcases hk with h | h <;> exact h
    subst this;rw [hob] at hl;cases hl;rfl)
   (fun b hlt hb=>by
    refine hoth b hlt fun e' => ?_
    subst e'
    rcases hb' with k1 | k1
    ·exact hb n _ (.inl rfl) hob k1
    ·omega)
   (fun b hbm=>by
    simp at hbm
    subst hbm
    rcases hb' with k1 | k1
    ·exact .inl ⟨n,_, .inl rfl,hob,k1⟩
    ·exact .inr k1)
  have gd:=gd (.inr ⟨b',vs',T',cap',by rw [List.length_append],rfl,hheap',hsz',by rw [List.length_append];exact hcap',by rw [List.length_append];unfold av;omega,fun i y hy=>by
   obtain ⟨us,r1,r2⟩:=(ho3.append ho1 hrl) i y hy
   exact ⟨us,eG hsc r1,fun j u hj=>hv _ u (r2 j u hj)⟩⟩)
  exact ⟨_,_,_,_,_,h,rfl,gd,tr,⟨by simp [ae,fresh,aA],fun t xs hy=>by simp [ae,aP]⟩,hrun⟩
 rcases (g.obj n _ hob).2 with ⟨rfl,⟨a0,ha0⟩,hbs0⟩ | ⟨b1,vs1,T1,cap1,hl1,hbs1,hheap1,hsz1,hfit1,hbig1,he1⟩
 ·have hvs0:vs = .slice a0 0 0:=hvl.trans ha0
  subst hvs0
  have hrun:=im (P:=P) (w:=w) (t:=t) (ty:=ty) hu hf.info hz a0 (a:=⟨b,o,none⟩) (n:=List.length ys) (c:=cap) (news:=cs) (by rw [cz,hf.size]) hnews hpos (by simp at hle;omega)
   (by have:=hbytes;simp only [List.length_nil,Nat.zero_add] at this;omega)
  have hc':List.length ys<=grownCap w (List.length ys) 0 te:=grownCap_ge w _ _ _
  have hB:Below w.heap.size w (w.drew.alloc (.cells (cs.toArray++Builtin.zeroCells z.cells (grownCap w (List.length ys) 0 te - List.length ys)) te)):=(Below.refl _ w).drew.alloc (Nat.le_refl _) _
  refine fin _ w.heap.size (grownCap w (List.length ys) 0 te) _ te [] (by simp) (fun i y hy=>by simp at hy) hB.os hB.output hB.size (.inr (Nat.le_refl _)) (fun b hlt _=>hB.block b hlt) (heap_alloc_new w.drew _) ?_ (by simpa using hc')
   (fun j u hj => ?_) (by rw [hrun];simp)
  ·simp only [Array.size_append,List.size_toArray,size_zeroCells,hzs,cz,<-Nat.add_mul]
   congr 1;omega
  ·rw [List.nil_append] at hj
   rw [Array.getElem?_append,if_pos (by simpa using aE hj)]
   simpa using hj
 ·have hvs0:vs = .slice (some ⟨b1,0,none⟩) (List.length zs) cap1:=hvl.trans hl1
  subst hvs0
  have hxs:List.length zs * e'.size<=vs1.size:=by rw [hsz1];exact Nat.mul_le_mul_right _ hfit1
  obtain ⟨olds,ho,ho1,ho3,_⟩:=kR he1 hxs
  have ho2:∀j u,olds[j]?=some u->vs1[j]?=some u:=fun j u hj=>by
   rw [ho,List.getElem?_take] at hj
   split at hj
   ·rwa [Array.getElem?_toList] at hj
   ·cases hj
  by_cases hroom:List.length zs + List.length ys<=cap1
  ·have hmul:(List.length zs + List.length ys) * e'.size<=cap1 * e'.size:=Nat.mul_le_mul_right _ hroom
   rw [Nat.add_mul] at hmul
   have hfit:List.length zs * ti.size + cs.length<=vs1.size:=by rw [hf.size,hsz1,cz];exact hmul
   have hrun:=lG (P:=P) (ty:=ty) hu hf.info hheap1 (a:=⟨b,o,none⟩) (c:=cap) (by rw [cz,hf.size]) hnews hone hroom hfit
   rw [hf.size] at hrun hfit
   generalize hcur':(vs1.toList.take (List.length zs * e'.size)++cs++vs1.toList.drop (List.length zs * e'.size + cs.length)).toArray=cur' at hrun
   have hget:∀k:Nat,cur'[k]?=if k < List.length zs * e'.size then vs1[k]? else if k < List.length zs * e'.size + cs.length then cs[k - List.length zs * e'.size]? else vs1[k]?:=by
    intro k
    rw [<-hcur',List.getElem?_toArray,dv _ _ _ _ (by simpa using hfit)]
    simp
   have hsz':cur'.size=vs1.size:=by
    rw [<-hcur'];simp only [List.size_toArray,List.length_append,List.length_take,List.length_drop,Array.length_toList];omega
   refine fin (w.setRow b1 cur') b1 cap1 cur' T1 olds ho1 ho3 rfl rfl (by simp [World.setRow]) (.inl (by rw [show (loc n).bs=_ from hbs1];simp))
    (fun b _ hne=>setRow_other w b1 b cur' (fun e'=>hne e')) (setRow_heap w b1 vs1 cur' T1 (0,0) hheap1) (by rw [hsz',hsz1]) hroom (fun j u hj => ?_) hrun
   rw [List.getElem?_append,ho1] at hj
   rw [hget]
   by_cases h3:j < List.length zs * e'.size
   ·rw [if_pos h3] at hj ⊢;exact ho2 j u hj
   ·rw [if_neg h3] at hj
    have:=aE hj
    rw [if_neg h3,if_pos (by omega)];exact hj
  ·have hrun:=run_append_grow (P:=P) w t ty te ti z hu hf.info hz ⟨b1,0,none⟩ (List.length zs) cap1 olds (by rw [ho1,hf.size])
    (fun j u hj=>by rw [Addr.add_lit,Nat.zero_add,cell_of_row w b1 _ vs1 T1 (0,0) hheap1];exact ho2 j u hj)
    ⟨b,o,none⟩ (List.length ys) cap cs (by rw [cz,hf.size]) hnews (by omega) (by omega) (growslice_fits (by omega) hbytes)
   have hc':List.length zs + List.length ys<=grownCap w (List.length zs + List.length ys) cap1 te:=grownCap_ge w _ _ _
   have hB:Below w.heap.size w (w.drew.alloc (.cells (olds.toArray++cs.toArray++Builtin.zeroCells z.cells (grownCap w (List.length zs + List.length ys) cap1 te - (List.length zs + List.length ys))) te)):=(Below.refl _ w).drew.alloc (Nat.le_refl _) _
   refine fin _ w.heap.size (grownCap w (List.length zs + List.length ys) cap1 te) _ te olds ho1 ho3 hB.os hB.output hB.size (.inr (Nat.le_refl _)) (fun b hlt _=>hB.block b hlt) (heap_alloc_new w.drew _) ?_ hc' (fun j u hj => ?_) hrun
   ·simp only [Array.size_append,List.size_toArray,size_zeroCells,hzs,cz,ho1,<-Nat.add_mul]
    congr 1;omega
   ·have hj':(olds.toArray++cs.toArray)[j]?=some u:=by
     rw [<-Array.getElem?_toList];simpa using hj
    rw [Array.getElem?_append,if_pos (by have:=(Array.getElem?_eq_some_iff.1 hj').1;exact this)]
    exact hj'
end
end Go.Vg

namespace Go.Vg
open Go.RowKit
def Hl (a b:Int):Int:=if b < a then b else a
def Hm (a b:Int):Int:=if b > a then b else a
def Dm (mx:Bool) (x y:C) (K:C->VC):VC:=
 match x,y with
 | .d (.int k) a, .d (.int k') b=>match decide (k=k'),mx with
  | true,true=>K (.d (.int k) (Hm a b))
  | true,false=>K (.d (.int k) (Hl a b))
  | _,_ => .ff
 | _,_ => .ff
def mn (st:St) (env:List (Nat × SV)):List Operand->Option (List Nat)
 | []=>some []
 | x :: xs=>match bP env x,mn st env xs with
  | .ref n 0,some ns=>match look st.ag n with
   | some (.cells _ _)=>some (n :: ns)
   | _=>none
  | _,_=>none
def E2 (cx:Cx) (st:St) (still:Bool) (f:C) (args:List aZ) (K:SV->St->VC):VC:=
 match f with
 | .fn k caps=>match look cx.Γ k with
  | some (q,sp)=>match still && !q with
   | true => .ff
   | false=>sp (args++caps.map fun n => .one (.ref n 0)) st K
  | none => .ff
 | _ => .ff
def mo (cx:Cx) (d:Option Tmp):Bool:=
 match d with
 | some d=>iK d cx.hint
 | none=>false
def s6 (cx:Cx) (st:St) (o:Oper) (c:Call) (K:SV->St->VC):VC:=
 match c.callee with
 | .value f=>E2 cx st (mo cx o.dst) (bP st.env f) (c.args.toList.map fun x=>lL st.env x) K
 | .builtin .append=>match c.args.toList,c.argTypes.toList with
  | [s,x],[t,t']=>match Nat.beq t t' with
   | true=>match bP st.env s,bP st.env x with
    | .xd n .top, .xd m .top=>vH cx st t n m K
    | .ax n,x=>match mo cx o.dst with
     | true=>s5 cx st t n x K
     | false=>oE cx false st t (.ax n) x K
    | s,x=>oE cx (mo cx o.dst) st t s x K
   | false=>match look cx.τ t,look cx.τ t',bP st.env s,bP st.env x with
    | some (.slice (.int .u8)),some .str, .app e' xs n, .d .str ys=>ub st (.int .u8) (aI ys) e' xs n K
    | _,_,_,_ => .ff
  | _,_ => .ff
 | .builtin .copy=>match c.args.toList,c.argTypes.toList with
  | [d,s],[t,_]=>yM cx st t (bP st.env d) (bP st.env s) K
  | _,_ => .ff
 | .builtin .max=>match c.args.toList with
  | [x,y]=>Dm true (bP st.env x) (bP st.env y) fun c=>K (.s (.one c)) st
  | _ => .ff
 | .builtin .min=>match c.args.toList with
  | [x,y]=>Dm false (bP st.env x) (bP st.env y) fun c=>K (.s (.one c)) st
  | _ => .ff
 | _=>jJ cx st o.op fun sv=>K sv st
def bytesOf (ys:List Int):List UInt8:=ys.map fun n=>UInt8.ofNat n.toNat
def oI (st:St) (x:C) (K:C->VC):VC:=
 match p5 st (.int .u8) x with
 | some ys => .and (ys.length<=av) (K (.d .str (bytesOf ys)))
 | none => .ff
def oJ (st:St) (x:C) (K:SV->St->VC):VC:=
 match x with
 | .d .str s=>K (.s (.one (.d (.slice (.int .u8)) (aI s)))) st
 | _ => .ff
def s7 (cx:Cx) (st:St) (o:Oper) (s t:TypeId) (x:Operand) (K:SV->St->VC):VC:=
 match look cx.τ s,look cx.τ t with
 | some (.slice (.int .u8)),some .str=>oI st (bP st.env x) fun c=>K (.s (.one c)) st
 | some .str,some (.slice (.int .u8))=>oJ st (bP st.env x) K
 | _,some (.int _)=>jJ cx st o.op fun sv=>K sv st
 | _,_ => .ff
def isRow:C->Bool
 | .ax _=>true
 | _=>false
def Cr (st:St) (n:Nat) (ps:List (Nat × Operand)):Option aZ:=
 match n,ps with
 | 1,[(0,x)]=>match lL st.env x with
  | .one (.ax m)=>some (.one (.ax m))
  | .agg cs=>match cs.any isRow with
   | true=>some (.agg cs)
   | false=>none
  | _=>none
 | _,_=>none
def Dn (cx:Cx) (st:St) (o:Oper) (x:Operand) (K:SV->St->VC):VC:=
 match mo cx o.dst,ev st.env x with
 | true, .s (.one .dY)=>s4 cx st x o.type K
 | _,_=>rh cx st x o.type K
def wI (cx:Cx) (st:St) (t:TypeId) (n:Nat) (ps:List (Nat × Operand)) (K:SV->St->VC):VC:=
 match Cr st n ps with
 | some v=>qc cx st t v K
 | none=>ml cx st t n ps fun c=>K (.s (.one c)) st
def I2:Nat:=5000000
def yU (cx:Cx) (v:aZ):Option Nat:=
 match iK I2 cx.hint,v with
 | true, .one (.ax n)=>some n
 | _,_=>none
theorem E3 {cx:Cx} {v:aZ} {n:Nat} (h:yU cx v=some n):v = .one (.ax n):=by
 unfold yU at h
 split at h
 ·cases h;rfl
 ·cases h
def J5 (cx:Cx) (st:St) (t:TypeId) (x:C) (v:aZ) (K:SV->St->VC):VC:=
 match x with
 | .xd n (.cell i j)=>match look cx.τ t with
  | some ty=>qd st n i j ty v K
  | none => .ff
 | x=>match yU cx v with
  | some n=>match look st.ag n with
   | some (.ax e zs)=>ri cx (aA st n) t x (.one (.d (.slice e) zs)) K
   | _ => .ff
  | none=>ri cx st t x v K
def um (cx:Cx) (st:St) (o:Oper) (K:SV->St->VC):VC:=
 match o.op with
 | .convert s t x=>s7 cx st o s t x K
 | .move x=>rh cx st x o.type K
 | .assign x=>Dn cx st o x K
 | .alloc t=>match look cx.mM t with
  | some e=>K (.s (.one (.cV st.next))) (fresh st (.ext 2 iJ ([],(t:Int),(e:Int),())))
  | none=>Ck cx st t K
 | .box t x=>Iy cx st t (lL st.env x) K
 | .build t ps=>vG cx st t ps.toList fun sv=>K sv st
 | .buildSlice t n ps=>match mo cx o.dst with
  | true=>oG cx st t n ps.toList K
  | false=>wI cx st t n ps.toList K
 | .makeSlice t l c=>nx cx st t (bP st.env l) (bP st.env c) K
 | .store t x v=>J5 cx st t (bP st.env x) (lL st.env v) K
 | .makeFunc fn first caps=>match fn,first.toList,mn st st.env caps.toList with
  | .func f,[],some ns=>K (.s (.one (.fn f ns))) st
  | _,_,_ => .ff
 | .call c=>s6 cx st o c K
 | op=>jJ cx st op fun sv=>K sv st
def qh (cx:Cx) (st:St) (o:Oper) (K:SV->St->VC):VC:=
 match uj cx st o K with
 | some vc=>vc
 | none=>um cx st o K
def kindOf (cx:Cx) (o:Oper):Nat:=
 match o.op with
 | .move _ | .assign _=>0
 | .convert _ t _=>match look cx.τ t with
  | some (.int _)=>0
  | _=>3
 | .pick _ _ _ | .unOp _ _ _ | .extract _ _ | .binOp _ _ _ _ _ | .makeInterface _ _ | .typeAssert _ _ _ _ | .index _ _ _ | .build _ _ | .nilCheck _ | .indexAddr _ _ _ | .fieldAddr _ _ _ | .slice _ _ _ _ _ | .makeFunc _ _ _=>0
 | .load _ _=>1
 | .alloc _ | .box _ _ | .buildSlice _ _ _ | .makeSlice _ _ _=>2
 | .call c=>match c.callee with
  | .builtin .len=>match c.argTypes.toList with
   | [t]=>match look cx.lf t with
    | some _=>3
    | none=>0
   | _=>0
  | .builtin .max=>0
  | .builtin .min=>0
  | .value (.func f)=>match look cx.Γ f with
   | some (true,_)=>2
   | _=>3
  | .value _=>match mo cx o.dst with
   | true=>2
   | false=>3
  | _=>3
 | _=>3
section
variable {X:Ext} {P:Program} {cx:Cx}
def x9 (cx:Cx) (X:Ext) (O:ah) (K:SV->St->VC) (st:St) (S:aH) (loud:Bool) (a:Act) (dst:Option Tmp):Act->World->Prop:=
 fun a' w'=>∃v sv st' loc',a'=a.put dst v/\(K sv st').holds/\st'.env=st.env/\(loud=false->Below S.w.heap.size S.w w')/\Good cx.eT X (ae O st' loc' w')/\Tr S (ae O st' loc' w')/\bH cx.eT (ae O st' loc' w') sv v
structure bw (P:Program) (eT:TypeId) (X:Ext) (f:FuncId) (quiet:Bool) (sp:aY):Prop where
 fn:∃fn,P.funcs[f]?=some fn/\fn.body.isNone=false/\(fn.name == "runtime.NumGoroutine")=false
 ok:∀O st loc w args vs K,(sp args st K).holds->Good eT X (ae O st loc w)->bZ O w->bc eT (ae O st loc w) args vs->
  Calls P f vs.toArray w fun e w'=>∃v sv st' loc',e = .returned v/\(K sv st').holds/\st'.env=st.env/\(quiet=true->Below w.heap.size w w')/\Good eT X (ae O st' loc' w')/\
   Tr (ae O st loc w) (ae O st' loc' w')/\bH eT (ae O st' loc' w') sv v
structure fw (P:Program) (cx:Cx) (X:Ext):Prop extends TyOK P cx where
 calls:∀f q sp,look cx.Γ f=some (q,sp)->bw P cx.eT X f q sp
variable {Q:Exit->Act->World->Prop}
theorem b6 {o:Oper} {a:Act} {w w':World} {v:Value} {Kw:Act->World->Prop} (h:(execOp a.eval o).run P w = .ok (.value v) w') (hk:Kw (a.put o.dst v) w'):o.wp P a w Kw Q:=by
 unfold Oper.wp;rw [h];exact hk
theorem qi {f:FuncId} {fn:Func} (hfn:P.funcs[f]?=some fn) (hbody:fn.body.isNone=false) (hname:(fn.name == "runtime.NumGoroutine")=false) (args:Array Value) (w:World) :
  (callFunc f args).run P w = .ok (.enter f args) w:=by
 unfold callFunc
 simp only [Sem.run_bind,run_program,Result.andThen_ok,hfn,hname,hbody,Bool.false_eq_true,if_false,Sem.run_pure]
theorem qj {O:ah} {st:St} {loc:Nat->Loc} {w:World} {a:Act} (he:cJ cx.eT (ae O st loc w) st.env a):∀{xs:List Operand} {ns:List Nat},mn st st.env xs=some ns->
  xs.map a.eval=ns.map (fun n=>(loc n).v)/\∀n∈ns,n < st.next/\(ae O st loc w).fixed n:=by
 intro xs
 induction xs with
 | nil=>intro ns h;simp [mn] at h;subst h;simp
 | cons x xs ih=>
  intro ns h
  simp only [mn] at h
  split at h
  ·rename_i n ns' hx hxs
   split at h
   ·rename_i T cs hob
    cases h
    obtain ⟨k1,k2⟩:=ih hxs
    have hr:=aK he x
    rw [hx] at hr
    obtain ⟨b,h1,h2⟩:=hr.2 _ _ hob
    refine ⟨by simp only [List.map_cons,k1];congr 1;rw [h2];exact h1.symm,fun m hm => ?_⟩
    rcases List.mem_cons.1 hm with rfl | hm
    ·exact ⟨hr.1,fun t ys e=>by simp only [ae] at e;rw [hob] at e;cases e⟩
    ·exact k2 m hm
   ·cases h
  ·cases h
theorem bc.append {eT:TypeId} {S:aH} {xs ys:List aZ} {us vs:List Value} (h:bc eT S xs us) (h':bc eT S ys vs):bc eT S (xs++ys) (us++vs):=by
 induction h with
 | nil=>exact h'
 | cons h1 _ ih=>exact .cons h1 ih
theorem Hn {O:ah} {st:St} {loc:Nat->Loc} {w:World} (g:Good cx.eT X (ae O st loc w)):∀{ns:List Nat},(∀n∈ns,n < st.next)->bc cx.eT (ae O st loc w) (ns.map fun n => .one (.ref n 0)) (ns.map fun n=>(loc n).v):=by
 intro ns
 induction ns with
 | nil=>intro _;exact .nil
 | cons n ns ih=>
  intro h
  refine .cons ⟨h n (by simp),fun T cs hob => ?_⟩ (ih fun m hm=>h m (by simp [hm]))
  obtain ⟨_,b,vs,hl,_⟩:=g.obj _ _ hob
  exact ⟨b,hl,hl⟩
theorem yV {S:aH} {env:List (Nat × SV)} {a:Act} (he:cJ cx.eT S env a):∀(xs:List Operand),bc cx.eT S (xs.map fun x=>lL env x) (xs.map a.eval)
 | [] => .nil
 | x :: xs => .cons (fv he x) (yV he xs)
theorem oK {S:aH} {mx:Bool} {x y:C} {K:C->VC} {v1 v2:Value} (hx:CR cx.eT S x v1) (hy:CR cx.eT S y v2) (h:(Dm mx x y K).holds) :
  ∃c v,(K c).holds/\CR cx.eT S c v/\∀w,(if mx then Builtin.max2 v1 v2 else Builtin.min2 v1 v2).run P w = .ok v w:=by
 unfold Dm at h
 split at h
 ·rename_i k a k' b
  obtain ⟨rfl,ha⟩:=bd.1 hx
  obtain ⟨rfl,hb⟩:=bd.1 hy
  split at h
  ·rename_i hk
   simp at hk
   subst hk
   refine ⟨_,_,h,bd.2 ⟨rfl,?_⟩,fun w=>by simp [Builtin.max2,Hm]⟩
   unfold Hm;split <;> assumption
  ·rename_i hk
   simp at hk
   subst hk
   refine ⟨_,_,h,bd.2 ⟨rfl,?_⟩,fun w=>by simp [Builtin.min2,Hl]⟩
   unfold Hl;split <;> assumption
  ·exact h.elim
 ·exact h.elim
theorem foldl_push (ns:List Int):∀s:ByteArray,ns.foldl (fun r n=>r.push (UInt8.ofNat n.toNat)) s=⟨s.data++(bytesOf ns).toArray⟩:=by
 induction ns with
 | nil=>intro s;simp [bytesOf]
 | cons n ns ih=>
  intro s
  rw [List.foldl_cons,ih]
  simp [bytesOf,ByteArray.push]
theorem I3 {eT:TypeId} {A:ah} {w:World} {ys:List Int} {cs:List Value} (hl:cs.length=ys.length) (h:cE eT (.int .u8) ys A w cs):cs=ys.map (Value.int .u8):=by
 apply List.ext_getElem?
 intro i
 cases hy:ys[i]? with
 | none=>
  have:ys.length<=i:=List.getElem?_eq_none_iff.1 hy
  rw [List.getElem?_eq_none (by omega),List.getElem?_eq_none (by simpa using this)]
 | some y=>
  obtain ⟨us,h1,h2⟩:=h i y hy
  obtain ⟨rfl,_⟩:=h1
  have:=h2 0 _ rfl
  simp only [Ty.size,Nat.mul_one,Nat.add_zero] at this
  rw [this,List.getElem?_map,hy]
  rfl
theorem vJ (hok:TyOK P cx) {O:ah} {st:St} {loc:Nat->Loc} {w:World} (g:Good cx.eT X (ae O st loc w)) {s t:TypeId} (hs:look cx.τ s=some (.slice (.int .u8))) (ht:look cx.τ t=some .str)
  {x:C} {v0:Value} (hx:CR cx.eT (ae O st loc w) x v0) {K:C->VC} (h:(oI st x K).holds) :
  ∃c v,(K c).holds/\CR cx.eT (ae O st loc w) c v/\(convert s t v0).run P w = .ok v w:=by
 obtain ⟨_,i1,d1,hf1,hs1⟩:=cj hok hs
 cases d1 <;> simp [aT] at hs1
 rename_i te
 have hu:=hf1.du
 obtain ⟨_,_,d3,_,hf3,hs3⟩:=fg hs1
 have hte:P.underlying te=some (.int .u8):=by
  cases d3 <;> simp [aT] at hs3
  subst hs3;exact hf3.du
 obtain ⟨_,i2,d2,hf2,hs2⟩:=cj hok ht
 have hd2:d2 = .string:=by cases d2 <;> simp [aT] at hs2;rfl
 subst hd2
 unfold oI at h
 split at h
 ·rename_i ys hys
  obtain ⟨hlen,h⟩:=h
  refine ⟨_, .string ⟨(bytesOf ys).toArray⟩,h,dQ.2 ⟨rfl,by simpa [bytesOf] using hlen⟩,?_⟩
  rcases oF g hys hx with ⟨rfl,a0,c0,rfl⟩ | ⟨b,o,cap,cs,rfl,h1,h2,h3,_⟩
  ·rcases a0 with _ | a0
   ·rw [run_convert_bytes_string w s t te none 0 c0 hu hte hf2.du]
    rfl
   ·rw [run_convert_bytes_string w s t te _ _ _ hu hte hf2.du]
    rw [run_bytesToString w a0 0 c0 [],foldl_push]
    ·simp
    ·have:=run_loadCells_list (P:=P) w a0 [] (fun j u hj=>by simp at hj)
     simpa using this
  ·rw [run_convert_bytes_string w s t te _ _ _ hu hte hf2.du]
   simp only [Ty.size,Nat.mul_one] at h1
   have hcs:=I3 h1 h3
   rw [run_bytesToString w ⟨b,o,none⟩ ys.length cap ys,foldl_push]
   ·simp
   ·rw [<-h1,run_loadCells_list w _ cs (fun j u hj=>by rw [Addr.add_lit];exact h2 j u hj),hcs]
 ·exact h.elim
theorem r4 (s:List UInt8) (i:Nat):(aI s)[i]?=s[i]?.map fun b=>(b.toNat:Int):=by
 simp [aI]
theorem vK (hok:TyOK P cx) {O:ah} {st:St} {loc:Nat->Loc} {w:World} (g:Good cx.eT X (ae O st loc w)) (hO:bZ O w) {s t:TypeId} (hs:look cx.τ s=some .str) (ht:look cx.τ t=some (.slice (.int .u8)))
  {x:C} {v0:Value} (hx:CR cx.eT (ae O st loc w) x v0) {K:SV->St->VC} (h:(oJ st x K).holds) :
  ∃sv v w',(K sv st).holds/\bH cx.eT (ae O st loc w') sv v/\(convert s t v0).run P w = .ok v w'/\Below w.heap.size w w':=by
 obtain ⟨_,i1,d1,hf1,hs1⟩:=cj hok ht
 cases d1 <;> simp [aT] at hs1
 rename_i te
 obtain ⟨_,_,d3,_,hf3,hs3⟩:=fg hs1
 have hte:P.underlying te=some (.int .u8):=by
  cases d3 <;> simp [aT] at hs3
  subst hs3;exact hf3.du
 obtain ⟨_,i2,d2,hf2,_⟩:=cj hok hs
 unfold oJ at h
 split at h
 case h_2=>exact h.elim
 rename_i s0
 obtain ⟨rfl,hbig⟩:=dQ.1 hx
 have hrun:=Lib.run_convert_string_bytes (P:=P) w s t te ⟨s0.toArray⟩ hf2.du hf1.du hte
 have hbl:Below w.heap.size w (Lib.bytesWorld w te ⟨s0.toArray⟩):=⟨rfl,rfl,by rw [Lib.bytesWorld_size];omega,fun k hk=>Lib.bytesWorld_at_old w te _ k hk⟩
 refine ⟨_,_,_,h,?_,hrun,hbl⟩
 have hA:∀o,¬ (ae O st loc w).A w.heap.size o:=by
  rintro o (h | ⟨n,oc,h1,h2,_⟩)
  ·exact absurd (hO _ _ h) (Nat.lt_irrefl _)
  ·exact absurd ((g.obj n oc h1).2.inside _ h2) (Nat.lt_irrefl _)
 have hsz:(⟨s0.toArray⟩:ByteArray).size=s0.length:=by simp [ByteArray.size]
 show VR cx.eT (.slice (.int .u8)) (aI s0) _ _ _
 refine VR.aW rfl ⟨_,rfl,by simpa [aI] using hbig, .inr ⟨w.heap.size,0,grownCap w s0.length 0 te,by rw [hsz];simp [aI],by simp only [aI,List.length_map];exact grownCap_ge _ _ _ _,fun i y hy=>⟨[.int .u8 y],?_,?_⟩⟩⟩
 ·rw [r4] at hy
  cases hb:s0[i]? with
  | none=>rw [hb] at hy;cases hy
  | some b=>
   rw [hb] at hy
   cases hy
   have h1:=b.toNat_lt
   have h2:IntKind.u8.min=0:=by decide
   have h3:IntKind.u8.max=255:=by decide
   refine ⟨rfl,?_,?_⟩
   ·show IntKind.u8.min<=((b.toNat:Nat):Int);omega
   ·show ((b.toNat:Nat):Int)<=IntKind.u8.max;omega
 ·intro j u hj
  cases j with
  | succ j=>simp at hj
  | zero=>
   simp at hj
   subst hj
   refine ⟨?_,hA _⟩
   rw [r4] at hy
   cases hb:s0[i]? with
   | none=>rw [hb] at hy;cases hy
   | some b=>
    rw [hb] at hy
    cases hy
    have hlt:i < s0.length:=(List.getElem?_eq_some_iff.1 hb).1
    have:=Lib.bytesWorld_cell w te ⟨s0.toArray⟩ i (by rw [hsz];exact hlt)
    simp only [ae,Ty.size,Nat.mul_one,Nat.zero_add,Nat.add_zero]
    rw [this]
    simp [List.getD,hb]
theorem E4 (hok:fw P cx X) {O:ah} {st:St} {loc:Nat->Loc} {w:World} {a:Act} (g:Good cx.eT X (ae O st loc w)) (hO:bZ O w) (he:cJ cx.eT (ae O st loc w) st.env a)
  {o:Oper} {K:SV->St->VC} (h:(um cx st o K).holds):o.wp P a w (x9 cx X O K st (ae O st loc w) (Nat.beq (kindOf cx o) 3) a o.dst) Q:=by
 have read:(jJ cx st o.op fun sv=>K sv st).holds->o.wp P a w (x9 cx X O K st (ae O st loc w) (Nat.beq (kindOf cx o) 3) a o.dst) Q:=by
  intro h
  obtain ⟨sv,v,h1,h2,h3⟩:=yG hok.toTyOK g he h
  exact b6 h3 ⟨v,sv,st,loc,rfl,h1,rfl,fun _=>Below.refl _ _,g,Tr.refl _,h2⟩
 have mov:∀x ty,(execOp a.eval o).run P w = .ok (.value (a.eval x)) w->(rh cx st x ty K).holds->o.wp P a w (x9 cx X O K st (ae O st loc w) (Nat.beq (kindOf cx o) 3) a o.dst) Q:=by
  intro x ty hrun h
  obtain ⟨sv,st',loc',h1,h2,h3,h4,h5⟩:=rX g hO he h
  exact b6 hrun ⟨_,sv,st',loc',rfl,h1,h2,fun _=>Below.refl _ _,h3,h4,h5⟩
 unfold um at h
 split at h
 ·rename_i s t x hop
  unfold s7 at h
  split at h
  ·rename_i hs ht
   obtain ⟨c,v,h1,h2,h3⟩:=vJ hok.toTyOK g hs ht (aK he x) h
   exact b6 (w':=w) (by simp only [execOp,hop,Sem.run_bind,Sem.run_pure];rw [h3];rfl) ⟨v,_,st,loc,rfl,h1,rfl,fun _=>Below.refl _ _,g,Tr.refl _,h2⟩
  ·rename_i hs ht
   obtain ⟨sv,v,w',h1,h2,h3,h4⟩:=vK hok.toTyOK g hO hs ht (aK he x) h
   obtain ⟨t1,g1⟩:=jE (S:=ae O st loc w) (S':=ae O st loc w') g rfl rfl rfl rfl h4
   exact b6 (w':=w') (by simp only [execOp,hop,Sem.run_bind,Sem.run_pure];rw [h3];rfl) ⟨v,sv,st,loc,rfl,h1,rfl,fun _=>h4,g1,t1,h2⟩
  ·exact read h
  ·exact h.elim
 ·rename_i x hop
  exact mov x _ (by simp [execOp,hop]) h
 ·rename_i x hop
  unfold Dn at h
  split at h
  ·obtain ⟨sv,st',loc',h1,h2,h3,h4,h5⟩:=qg g hO he h
   exact b6 (w':=w) (v:=a.eval x) (by simp [execOp,hop]) ⟨_,sv,st',loc',rfl,h1,h2,fun _=>Below.refl _ _,h3,h4,h5⟩
  ·exact mov x _ (by simp [execOp,hop]) h
 ·rename_i t hop
  split at h
  ·rename_i e hslf
   obtain ⟨i,hi,hz⟩:=hok.mM t e hslf
   have hb:Below w.heap.size w (w.alloc (.cells #[.pointer none, .slice none 0 0] t)):=(Below.refl _ w).alloc (Nat.le_refl _) _
   obtain ⟨tr1,g1⟩:=cS (oc:=.ext 2 iJ ([],(t:Int),(e:Int),())) (l:=⟨.pointer (some ⟨w.heap.size,0,none⟩),[w.heap.size]⟩) g hO hb (by simp)
   have g1:=g1 (X.EO.2 ⟨rfl,w.heap.size, .pointer none, .slice none 0 0,rfl, .inl rfl,heap_alloc_new w _,⟨by simp, .inl ⟨rfl,rfl⟩⟩,rfl,by simp [Value.ownBlock],(fun y hy=>by simp at hy),(fun a n c hh=>by cases hh)⟩)
   refine b6 (w':=w.alloc (.cells #[.pointer none, .slice none 0 0] t)) (v:=.pointer (some ⟨w.heap.size,0,none⟩)) (by simp [execOp,hop,Instr.alloc,zeroValue,typeInfo,hi,hz,newVar,newRow,Value.cells])
    ⟨_,_,_,_,rfl,h,rfl,fun _=>hb,g1,tr1,⟨by simp [ae,fresh],fun oc hy hx => ?_⟩⟩
   simp [ae,aP]
  unfold Ck at h
  split at h
  ·rename_i ty ht
   obtain ⟨m,ti,d,hf,hs⟩:=cj hok.toTyOK ht
   obtain ⟨z,hz,hzr⟩:=hf.zero
   obtain ⟨sv,st',loc',h1,h2,h3,h4,h5⟩:=EX (t:=t) (ts:=jw ty) g hO (fh hzr) h
   refine b6 (w':=w.alloc (.cells z.cells.toList.toArray t)) ?_ ⟨_,sv,st',loc',rfl,h1,h2,fun _=>(Below.refl _ w).alloc (Nat.le_refl _) _,h3,h4,h5⟩
   simp [execOp,hop,Instr.alloc,zeroValue,typeInfo,hf.info,hz,newVar,newRow]
  ·split at h
   case h_2=>exact h.elim
   rename_i n te hn
   split at h
   case h_2=>exact h.elim
   rename_i e he
   split at h
   case h_2=>exact h.elim
   rename_i hno
   obtain ⟨i,z,hi,hz,hzr⟩:=hok.oB t n te e hn he
   have hb:Below w.heap.size w (w.alloc (.cells z.cells.toList.toArray t)):=(Below.refl _ w).alloc (Nat.le_refl _) _
   obtain ⟨tr1,g1⟩:=cS (oc:=.arr e (List.replicate n (bp e))) (l:=⟨.pointer (some ⟨w.heap.size,0,none⟩),[w.heap.size]⟩) g hO hb (by simp)
   obtain ⟨hl,hel⟩:=yJ (eT:=cx.eT) (A:=(ae O (fresh st (.arr e (List.replicate n (bp e)))) (aP loc st.next ⟨.pointer (some ⟨w.heap.size,0,none⟩),[w.heap.size]⟩) (w.alloc (.cells z.cells.toList.toArray t))).A) (w:=w.alloc (.cells z.cells.toList.toArray t)) hno hzr
   have g1:=g1 ⟨w.heap.size,z.cells.toList.toArray,t,rfl,rfl,heap_alloc_new w _,by simp only [List.size_toArray,List.length_replicate];exact hl,fun j y hy=>by
    obtain ⟨us,k1,k2⟩:=hel j y hy
    exact ⟨us,k1,fun q u hq=>by simpa using k2 q u hq⟩⟩
   refine b6 (w':=w.alloc (.cells z.cells.toList.toArray t)) ?_ ⟨.pointer (some ⟨w.heap.size,0,none⟩),_,_,_,rfl,h,rfl,fun _=>hb,g1,tr1,?_⟩
   ·simp [execOp,hop,Instr.alloc,zeroValue,typeInfo,hi,hz,newVar,newRow]
   ·show st.next < st.next + 1/\_
    refine ⟨by omega,fun t' xs' hx => ?_⟩
    simp [ae,aP]
 ·rename_i t x hop
  unfold Iy at h
  split at h
  ·rename_i ty ht
   split at h
   ·rename_i cs0 hfl
    obtain ⟨us,hus,hcr,_⟩:=mN g hfl (fv he x)
    obtain ⟨sv,st',loc',h1,h2,h3,h4,h5⟩:=EX (t:=t) (ts:=jw ty) g hO hcr h
    refine b6 (w':=w.alloc (.cells us.toArray t)) ?_ ⟨_,sv,st',loc',rfl,h1,h2,fun _=>(Below.refl _ w).alloc (Nat.le_refl _) _,h3,h4,h5⟩
    subst hus
    simp [execOp,hop,Instr.box,newVar,newRow]
   ·exact h.elim
  ·exact h.elim
 ·rename_i t ps hop
  obtain ⟨sv,v,h1,h2,h3⟩:=pJ hok.toTyOK g he h
  exact b6 (by have:=h3 w;simp only [execOp,hop,Sem.run_bind,Sem.run_pure];rw [this];rfl) ⟨v,sv,st,loc,rfl,h1,rfl,fun _=>Below.refl _ _,g,Tr.refl _,h2⟩
 ·rename_i t n ps hop
  split at h
  ·obtain ⟨sv,v,st',loc',w',h1,h2,h3,h4,h5,h6,h7⟩:=sW hok.toTyOK g hO he h
   exact b6 (by simp only [execOp,hop,Sem.run_bind,Sem.run_pure];rw [h7];rfl) ⟨v,sv,st',loc',rfl,h1,h3,fun _=>h2,h4,h5,h6⟩
  unfold wI at h
  split at h
  ·rename_i sv0 hown
   have hp:∃x,n=1/\ps.toList = [(0,x)]/\dr cx.eT (ae O st loc w) sv0 (a.eval x):=by
    unfold Cr at hown
    split at hown
    ·rename_i x hps
     have hr:=fv he x
     split at hown
     ·rename_i m hm;cases hown;exact ⟨x,rfl,hps,by rw [<-hm];exact hr⟩
     ·rename_i cs hm
      split at hown
      ·cases hown;exact ⟨x,rfl,hps,by rw [<-hm];exact hr⟩
      ·cases hown
     ·cases hown
    ·cases hown
   obtain ⟨x,rfl,hps,hr⟩:=hp
   obtain ⟨sv,v,st',loc',w',h1,h2,h3,h4,h5,h6,h7⟩:=uf hok.toTyOK g hO hr h
   have hps':ps = #[(0,x)]:=Array.toList_inj.1 hps
   exact b6 (w':=w') (v:=v) (by simp only [execOp,hop,Sem.run_bind,Sem.run_pure,hps'];rw [show (#[(0,x)]:Array (Nat × Operand)).map (fun (i,x)=>(i,a.eval x)) = #[(0,a.eval x)] from by simp,h7];rfl) ⟨v,sv,st',loc',rfl,h1,h2,fun _=>h3,h4,h5,h6⟩
  obtain ⟨c,v,w',h1,h2,h3,h4,h5,h6⟩:=qa hok.toTyOK g hO he h
  exact b6 (by simp only [execOp,hop,Sem.run_bind,Sem.run_pure];rw [h6];rfl) ⟨v,_,st,loc,rfl,h1,rfl,fun _=>h2,h3,h4,h5⟩
 ·rename_i t l c hop
  obtain ⟨sv,v,st',loc',w',h1,h2,h3,h4,h5,h6,h7⟩:=rP hok.toTyOK g hO (aK he l) (aK he c) h
  exact b6 (by simp only [execOp,hop,Sem.run_bind,Sem.run_pure];rw [h7];rfl) ⟨v,sv,st',loc',rfl,h1,h3,fun _=>h2,h4,h5,h6⟩
 ·rename_i t x v hop
  have hst:∃st' loc' w',(K (.s (.one .any)) st').holds/\st'.env=st.env/\Good cx.eT X (ae O st' loc' w')/\Tr (ae O st loc w) (ae O st' loc' w')/\(Instr.storeAt t (a.eval x) (a.eval v)).run P w = .ok () w':=by
   have hx:=aK he x
   unfold J5 at h
   split at h
   ·rename_i n i j hl
    rw [hl] at hx
    split at h
    ·rename_i ty ht
     obtain ⟨_,_,_,hf,_⟩:=cj hok.toTyOK ht
     exact ug g hO hf hx (fv he v) h
    ·exact h.elim
   ·split at h
    ·rename_i n hr
     split at h
     ·rename_i e zs hob
      have hv:=fv he v
      rw [E3 hr] at hv
      obtain ⟨td,gd⟩:=gP g n
      obtain ⟨st',loc',w',k1,k2,k3,k4,k5⟩:=pI (v:=.one (.d (.slice e) zs)) hok.toTyOK gd hO (hx.tr td) (rZ g hob hv) h
      exact ⟨st',loc',w',k1,k2,k3,td.trans k4,k5⟩
     ·exact h.elim
    ·exact pI hok.toTyOK g hO hx (fv he v) h
  obtain ⟨st',loc',w',h1,h2,h3,h4,h5⟩:=hst
  have hrun:(execOp a.eval o).run P w = .ok .skip w':=by
   simp only [execOp,hop,Sem.run_bind,Sem.run_pure];rw [h5];rfl
  unfold Oper.wp
  rw [hrun]
  have hk:Nat.beq (kindOf cx o) 3=true:=by simp [kindOf,hop]
  exact ⟨undef,_,st',loc',rfl,h1,h2,fun e=>(by rw [hk] at e;cases e),h3,h4,trivial⟩
 ·rename_i fn first caps hop
  split at h
  ·rename_i f ns hfi hcn
   obtain ⟨k1,k2⟩:=qj he hcn
   have hfi':first = #[]:=Array.toList_inj.1 hfi
   have hca:caps.map a.eval=(ns.map fun n=>(loc n).v).toArray:=by
    apply Array.toList_inj.1
    rw [Array.toList_map,k1]
   refine b6 (w':=w) (v:=.func (.func f) #[] (ns.map fun n=>(loc n).v).toArray) ?_ ⟨_,_,st,loc,rfl,h,rfl,fun _=>Below.refl _ _,g,Tr.refl _,⟨rfl,k2⟩⟩
   simp [execOp,hop,Instr.makeFunc,hfi',hca]
  ·exact h.elim
 ·rename_i c hop
  unfold s6 at h
  split at h
  ·rename_i f hcal
   unfold E2 at h
   split at h
   ·rename_i k caps hf
    split at h
    ·rename_i q sp hsp
     split at h
     ·exact h.elim
     rename_i hstill
     obtain ⟨⟨fn,hfn,hbody,hname⟩,hcall⟩:=hok.calls k q sp hsp
     have hr:=aK he f
     rw [hf] at hr
     obtain ⟨hfv,hcaps⟩:=hr
     have hargs:=(yV he c.args.toList).append (Hn g (ns:=caps) fun n hn=>(hcaps n hn).1)
     have:=hcall O st loc w _ _ K h g hO hargs
     have hrun:(execOp a.eval o).run P w = .ok (.enter k (c.args.toList.map a.eval++caps.map fun n=>(loc n).v).toArray) w:=by
      have e1:(c.args.map a.eval)++(caps.map fun n=>((ae O st loc w).loc n).v).toArray=(c.args.toList.map a.eval++caps.map fun n=>(loc n).v).toArray:=by
       apply Array.toList_inj.1
       simp [ae]
      have e2:resolve a.eval c o.type=pure {target:=.fn (.func k) (caps.map fun n=>((ae O st loc w).loc n).v).toArray,args:=c.args.map a.eval}:=by
       simp [resolve,hcal,hfv,Deferred.ofValue]
      simp only [execOp,hop,e2,pure_bind,invoke,e1]
      exact qi hfn hbody hname _ w
     unfold Oper.wp
     rw [hrun]
     refine Calls.mono this ?_
     rintro e w' ⟨v,sv,st',loc',rfl,k1,k2,k3,k4,k5,k6⟩
     refine ⟨v,sv,st',loc',rfl,k1,k2,fun hl => ?_,k4,k5,k6⟩
     cases q with
     | true=>exact k3 rfl
     | false=>
      exfalso
      have:kindOf cx o=3:=by
       unfold kindOf
       simp only [hop,hcal]
       split
       ·rename_i heq;cases heq
       ·rename_i heq;cases heq
       ·rename_i heq;cases heq
       ·rename_i f' heq
        have hfe:f = .func f':=by cases heq;rfl
        subst hfe
        simp only [bP,ev] at hf
        cases hf
        rw [hsp]
       ·rw [show mo cx o.dst=false by simpa using hstill]
       ·rfl
      rw [this] at hl
      cases hl
    ·exact h.elim
   ·exact h.elim
  ·rename_i hcal
   split at h
   ·rename_i s x t t' harg hty
    split at h
    ·rename_i htt
     have htt:=Nat.eq_of_beq_eq_true htt
     subst htt
     have h1:c.args = #[s,x]:=Array.toList_inj.1 harg
     have h2:c.argTypes = #[t,t]:=Array.toList_inj.1 hty
     have happ:∃sv v st' loc' w',(K sv st').holds/\st'.env=st.env/\Good cx.eT X (ae O st' loc' w')/\Tr (ae O st loc w) (ae O st' loc' w')/\bH cx.eT (ae O st' loc' w') sv v/\
       (Builtin.append_ #[t,t] o.type #[a.eval s,a.eval x]).run P w = .ok v w':=by
      have hs:=aK he s
      have hx:=aK he x
      split at h
      ·rename_i n m hl1 hl2
       rw [hl1] at hs
       rw [hl2] at hx
       exact xV hok.toTyOK g hO hs hx h
      ·rename_i n hl1
       rw [hl1] at hs
       split at h
       ·exact yT hok.toTyOK g hO hs hx h
       ·exact nR (P:=P) (ty:=o.type) hok.toTyOK g hO hs hx h
      ·exact nR (P:=P) (ty:=o.type) hok.toTyOK g hO hs hx h
     obtain ⟨sv,v,st',loc',w',k1,k2,k3,k4,k5,k6⟩:=happ
     have hk:Nat.beq (kindOf cx o) 3=true:=by simp [kindOf,hop,hcal]
     refine b6 (w':=w') (v:=v) ?_ ⟨v,sv,st',loc',rfl,k1,k2,fun e=>(by rw [hk] at e;cases e),k3,k4,k5⟩
     simp [execOp,hop,resolve,hcal,h1,h2,invoke,builtin,k6]
    ·split at h
     case h_2=>exact h.elim
     rename_i e' xs n ys ht1 ht2 hs1 hx1
     have h1:c.args = #[s,x]:=Array.toList_inj.1 harg
     have h2:c.argTypes = #[t,t']:=Array.toList_inj.1 hty
     obtain ⟨te,ti,td,hu,hf⟩:=cX hok.toTyOK ht1
     obtain ⟨z,hz,hzr⟩:=hf.zero
     have hzs:z.cells.size=(Ty.int .u8).size:=by rw [<-Array.length_toList];exact (fh (S:=ae O st loc w) (cx:=cx) hzr).length.symm.trans (dC _)
     have hs:=aK he s
     have hx:=aK he x
     rw [hs1] at hs
     rw [hx1] at hx
     obtain ⟨hx,hxl⟩:=dQ.1 hx
     have hu':P.underlying t'=some .string:=re hok.toTyOK ht2
     obtain ⟨sv,v,st',loc',w',k1,k2,k3,k4,k5,k6⟩:=nw (t:=t) (t':=t') (ty:=o.type) g hO hu hf hz hzs hs (p7.J3 hu hu' hf hz ys _ _) h
     have hk:Nat.beq (kindOf cx o) 3=true:=by simp [kindOf,hop,hcal]
     refine b6 (w':=w') (v:=v) ?_ ⟨v,sv,st',loc',rfl,k1,k2,fun e=>(by rw [hk] at e;cases e),k3,k4,k5⟩
     simp [execOp,hop,resolve,hcal,h1,h2,invoke,builtin,hx,k6]
   ·exact h.elim
  ·rename_i hcal
   split at h
   ·rename_i d s t t' harg hty
    have h1:c.args = #[d,s]:=Array.toList_inj.1 harg
    have h2:c.argTypes = #[t,t']:=Array.toList_inj.1 hty
    obtain ⟨sv,v,st',loc',w',k1,k2,k3,k4,k5,k6⟩:=yO (P:=P) (t':=t') (ty:=o.type) hok.toTyOK g hO (aK he d) (aK he s) h
    have hk:Nat.beq (kindOf cx o) 3=true:=by simp [kindOf,hop,hcal]
    refine b6 (w':=w') (v:=v) ?_ ⟨v,sv,st',loc',rfl,k1,k2,fun e=>(by rw [hk] at e;cases e),k3,k4,k5⟩
    simp [execOp,hop,resolve,hcal,h1,h2,invoke,builtin,k6]
   ·exact h.elim
  ·rename_i hcal
   split at h
   ·rename_i x y harg
    have h1:c.args = #[x,y]:=Array.toList_inj.1 harg
    obtain ⟨c',v,k1,k2,k3⟩:=oK (P:=P) (aK he x) (aK he y) h
    refine b6 (w':=w) (v:=v) ?_ ⟨v,_,st,loc,rfl,k1,rfl,fun _=>Below.refl _ _,g,Tr.refl _,k2⟩
    have k3:=k3 w
    simp only [if_true] at k3
    simp [execOp,hop,resolve,hcal,h1,invoke,builtin,Builtin.max_,k3]
   ·exact h.elim
  ·rename_i hcal
   split at h
   ·rename_i x y harg
    have h1:c.args = #[x,y]:=Array.toList_inj.1 harg
    obtain ⟨c',v,k1,k2,k3⟩:=oK (P:=P) (aK he x) (aK he y) h
    refine b6 (w':=w) (v:=v) ?_ ⟨v,_,st,loc,rfl,k1,rfl,fun _=>Below.refl _ _,g,Tr.refl _,k2⟩
    have k3:=k3 w
    simp only [Bool.false_eq_true,if_false] at k3
    simp [execOp,hop,resolve,hcal,h1,invoke,builtin,Builtin.min_,k3]
   ·exact h.elim
  ·exact read h
 ·exact read h
theorem oL {st:St} {o:Oper} {K:SV->St->VC} {vc:VC} (h:uj cx st o K=some vc):kindOf cx o=3:=by
 unfold uj at h
 split at h
 ·rename_i hop;simp [kindOf,hop]
 ·rename_i hop;simp [kindOf,hop]
 ·rename_i hop;simp [kindOf,hop]
 ·rename_i hop;simp [kindOf,hop]
 ·rename_i hop;simp [kindOf,hop]
 ·rename_i hop;simp [kindOf,hop]
 ·rename_i c hop
  split at h
  ·rename_i hcal;simp [kindOf,hop,hcal]
  ·rename_i hcal
   split at h
   ·rename_i x t harg hty
    split at h
    ·rename_i p hp;simp [kindOf,hop,hcal,hty,hp]
    ·cases h
   ·cases h
  ·cases h
 ·cases h
theorem Ho (hok:fw P cx X) {O:ah} {st:St} {loc:Nat->Loc} {w:World} {a:Act} (g:Good cx.eT X (ae O st loc w)) (hO:bZ O w) (he:cJ cx.eT (ae O st loc w) st.env a)
  {o:Oper} {K:SV->St->VC} (h:(qh cx st o K).holds):o.wp P a w (x9 cx X O K st (ae O st loc w) (Nat.beq (kindOf cx o) 3) a o.dst) Q:=by
 unfold qh at h
 split at h
 ·rename_i vc hm
  have hk:Nat.beq (kindOf cx o) 3=true:=by rw [oL hm];rfl
  obtain ⟨sv,v,st',loc',w',h1,h2,h3,h4,h5,h6⟩:=Bx hok.toTyOK g hO he hm h
  rcases h6 with h6 | ⟨h6,rfl⟩
  ·exact b6 h6 ⟨v,sv,st',loc',rfl,h1,h2,fun e=>(by rw [hk] at e;cases e),h3,h4,h5⟩
  ·unfold Oper.wp
   rw [h6]
   exact ⟨undef,_,st',loc',rfl,h1,h2,fun e=>(by rw [hk] at e;cases e),h3,h4,trivial⟩
 ·exact E4 hok g hO he h
end
end Go.Vg

namespace Go.Vg
open Go.RowKit
inductive lg (ops:Array Oper) (i:Nat):Nat->Prop
 | dir {j o e}:ops[j]?=some o->e∈o.after->Region.binds .any e=true->e.on=i->lg ops i j
 | step {j o e}:ops[j]?=some o->e∈o.after->Region.binds .any e=true->lg ops i e.on->lg ops i j
def nT (ops:Array Oper) (listed:Array Bool):Prop:=
 ∀j o,ops[j]?=some o->listed.getD j false=true->∀e∈o.after,Region.binds .any e=true->listed.getD e.on false=true
theorem lg.listed {ops:Array Oper} {listed:Array Bool} {i j:Nat} (h:lg ops i j) (hc:nT ops listed):(∀o,ops[j]?=some o->∀e∈o.after,Region.binds .any e=true->listed.getD e.on false=true)->listed.getD i false=true:=by
 induction h with
 | dir ho he hb hi=>intro hj;rw [<-hi];exact hj _ ho _ he hb
 | step ho he hb _ ih=>intro hj;exact ih fun o' ho'=>hc _ o' ho' (hj _ ho _ he hb)
def yW (ms:List Nat) (o:Oper):Nat:=
 o.after.toList.foldl (fun s e=>match Region.binds .any e with
  | true=>s ||| (1 <<< e.on) ||| ms.getD e.on 0
  | false=>s) 0
def ku:List Oper->List Nat->List Nat
 | [],ms=>ms
 | o :: r,ms=>ku r (ms++[yW ms o])
theorem uo {k i:Nat} (h:(1 <<< k).testBit i=true):k=i:=by
 rw [Nat.one_shiftLeft,Nat.testBit_two_pow] at h
 simpa using h
theorem Dp {ops:Array Oper} {ms:List Nat} (hms:∀j,j < ms.length->∀i,(ms.getD j 0).testBit i=true->lg ops i j) {j:Nat} {o:Oper} (ho:ops[j]?=some o) :
  ∀i,(yW ms o).testBit i=true->lg ops i j:=by
 intro i hi
 unfold yW at hi
 have key:∀(l:List Edge) (s:Nat),(∀e∈l,e∈o.after)->(s.testBit i=true->lg ops i j)->
   (l.foldl (fun s e=>match Region.binds .any e with | true=>s ||| (1 <<< e.on) ||| ms.getD e.on 0 | false=>s) s).testBit i=true->lg ops i j:=by
  intro l
  induction l with
  | nil=>intro s _ hs h;exact hs h
  | cons e l ih=>
   intro s hl hs h
   simp only [List.foldl_cons] at h
   refine ih _ (fun e' he'=>hl e' (by simp [he'])) ?_ h
   intro hb
   split at hb
   ·rename_i hbind
    rw [Nat.testBit_or,Nat.testBit_or] at hb
    simp only [Bool.or_eq_true] at hb
    rcases hb with (hb | hb) | hb
    ·exact hs hb
    ·exact .dir ho (hl e (by simp)) hbind (uo hb)
    ·by_cases hlt:e.on < ms.length
     ·exact .step ho (hl e (by simp)) hbind (hms _ hlt i hb)
     ·rw [List.getD_eq_getElem?_getD,List.getElem?_eq_none (by omega)] at hb
      simp at hb
   ·exact hs hb
 exact key o.after.toList 0 (fun e he=>by simpa using he) (by simp) hi
theorem By {ops:Array Oper}:∀(r:List Oper) (ms:List Nat),(∀j,j < ms.length->∀i,(ms.getD j 0).testBit i=true->lg ops i j)->(∀k o,r[k]?=some o->ops[ms.length + k]?=some o)->
  ∀j i,((ku r ms).getD j 0).testBit i=true->lg ops i j:=by
 intro r
 induction r with
 | nil=>
  intro ms hms _ j i h
  by_cases hlt:j < ms.length
  ·exact hms j hlt i h
  ·simp only [ku] at h
   rw [List.getD_eq_getElem?_getD,List.getElem?_eq_none (by omega)] at h
   simp at h
 | cons o r ih=>
  intro ms hms hr
  refine ih _ ?_ ?_
  ·intro j hj i h
   rw [List.length_append,List.length_singleton] at hj
   by_cases hlt:j < ms.length
   ·rw [List.getD_eq_getElem?_getD,List.getElem?_append_left hlt,<-List.getD_eq_getElem?_getD] at h
    exact hms j hlt i h
   ·have e:j=ms.length:=by omega
    subst e
    rw [List.getD_eq_getElem?_getD,List.getElem?_append_right (Nat.le_refl _)] at h
    simp only [Nat.sub_self,List.getElem?_cons_zero,Option.getD_some] at h
    exact Dp hms (by simpa using hr 0 o rfl) i h
  ·intro k o' hk
   have:=hr (k + 1) o' (by simpa using hk)
   rw [List.length_append,List.length_singleton,show ms.length + 1 + k=ms.length + (k + 1) from by omega]
   exact this
def dE (ops:List Oper):List Nat:=ku ops []
theorem E5 {ops:Array Oper} {i j:Nat} (h:((dE ops.toList).getD j 0).testBit i=true):lg ops i j:=
 By ops.toList [] (fun j hj=>by simp at hj) (fun k o hk=>by simpa using hk) j i h
def ck (w:World) (A:ah) (w':World) (A':ah):Prop:=∀b o v,¬ A b o->w.cell? ⟨b,o,none⟩=some v->w'.cell? ⟨b,o,none⟩=some v/\¬ A' b o
theorem ck.refl (w:World) (A:ah):ck w A w A:=fun _ _ _ h h'=>⟨h',h⟩
theorem ck.trans {w1 w2 w3:World} {A1 A2 A3:ah} (h:ck w1 A1 w2 A2) (h':ck w2 A2 w3 A3):ck w1 A1 w3 A3:=fun b o v h1 h2=>have k:=h b o v h1 h2;h' b o v k.2 k.1
abbrev s9:=World->ah->World->ah->Prop
section
variable {P:Program} {ops:Array Oper} {Q:Exit->Act->World->Prop} {loud:Nat->Bool}
def wpS (P:Program) (ops:Array Oper) (loud:Nat->Bool) (Q:Exit->Act->World->Prop):Nat->Array Bool->Act->World->ah->Prop
 | 0,listed,a,w,_=>Region.ready .any ops listed = []/\Q .normal a w
 | n + 1,listed,a,w,A=>(Region.ready .any ops listed = []->Q .normal a w)/\
  ∀i∈Region.ready .any ops listed,wpOp P ops Q i (fun a' w'=>(loud i=false->Below w.heap.size w w')/\∃A',ck w A w' A'/\wpS P ops loud Q n (listed.setIfInBounds i true) a' w' A') a w
theorem vL:∀(n:Nat) (listed:Array Bool) (a:Act) (w:World) (A:ah),wpS P ops loud Q n listed a w A->wpAny P .any ops Q n listed a w
 | 0,_,_,_,_,h=>h
 | n + 1,_,_,_,_,h=>⟨h.1,fun i hi=>wpOp_mono (fun a' w' h'=>let ⟨A',_,h2⟩:=h'.2;vL n _ a' w' A' h2) (h.2 i hi)⟩
def dG (P:Program) (ops:Array Oper) (C:s9) (o:Oper) (v:Value) (a:Act) (w:World) (A:ah):Prop:=
 (Region.wanted o (yielded ops a.tmps)=true/\∀w' A',C w A w' A'->(execOp a.eval o).run P w' = .ok (.value v) w')\/
 (Region.wanted o (yielded ops a.tmps)=false/\v=undef)
theorem dG.of_same {C:s9} (ht:∀a A b B c D,C a A b B->C b B c D->C a A c D) {o:Oper} {v:Value} {a a':Act} {w w':World} {A A':ah} (hy:dG P ops C o v a w A) (hc:C w A w' A') (he:execOp a'.eval o=execOp a.eval o)
  (hw:Region.wanted o (yielded ops a'.tmps)=Region.wanted o (yielded ops a.tmps)):dG P ops C o v a' w' A':=by
 unfold dG at *
 rw [he,hw]
 rcases hy with ⟨h1,h2⟩ | h
 ·exact .inl ⟨h1,fun w'' A'' hc'=>h2 w'' A'' (ht _ _ _ _ _ _ hc hc')⟩
 ·exact .inr h
theorem E6 {C:s9} (ht:∀a A b B c D,C a A b B->C b B c D->C a A c D) {j:Nat} {oi oj:Oper} {v:Value} (hj:ops[j]?=some oj) (hap:oi.apart ops oj=true)
  (hsi:∀cs b,oi.op≠.select cs b) (hsj:∀cs b,oj.op≠.select cs b)
  (hQ:∀c a w,Q (.panic c) (a.put oi.dst v) w->Q (.panic c) a w) {K:Act->World->ah->Prop} {a:Act} {w:World} {A:ah} (hCw:∀w' A',(loud j=false->Below w.heap.size w w')->ck w A w' A'->C w A w' A')
  (hy:dG P ops C oi v a w A) (h:wpOp P ops Q j (fun a' w'=>(loud j=false->Below w.heap.size w w')/\∃A',ck w A w' A'/\K a' w' A') (a.put oi.dst v) w) :
  wpOp P ops Q j (fun a' w'=>(loud j=false->Below w.heap.size w w')/\∃A',ck w A w' A'/\dG P ops C oi v a' w' A'/\K (a'.put oi.dst v) w' A') a w:=by
 obtain ⟨h1,h2,h3⟩:=Oper.apart_spec hap
 have keep:∀(a:Act) (w':World) (A':ah),dG P ops C oi v a w A->C w A w' A'->∀u,dG P ops C oi v (a.put oj.dst u) w' A':=fun a w' A' hy hc u=>
  hy.of_same ht hc (execOp_put oi hsi a oj.dst u h3) (wanted_put oi a oj.dst u h3)
 have keepD:∀d,dG P ops C oi v {a with defers:=d :: a.defers} w A:=fun d=>by
  unfold dG at *;exact hy
 have fin:∀(u:Value) (w':World),((loud j=false->Below w.heap.size w w')/\∃A',ck w A w' A'/\K ((a.put oi.dst v).put oj.dst u) w' A')->
   (loud j=false->Below w.heap.size w w')/\∃A',ck w A w' A'/\dG P ops C oi v (a.put oj.dst u) w' A'/\K ((a.put oj.dst u).put oi.dst v) w' A':=by
  rintro u w' ⟨k1,A',k2,k3⟩
  exact ⟨k1,A',k2,keep a w' A' hy (hCw _ _ k1 k2) u,by rw [<-Act.put_comm a v u h2];exact k3⟩
 unfold wpOp at *
 simp only [hj] at *
 rw [wanted_put oj a oi.dst v h1] at h
 split
 ·rename_i hw
  simp only [hw,if_true] at h
  rcases h with h | ⟨hasks,hlets⟩
  case inr=>exact .inr ⟨by unfold Oper.asks at *;rw [execOp_put oj hsj a oi.dst v h1] at hasks;exact hasks,hlets⟩
  refine .inl ?_
  unfold Oper.wp at *
  rw [execOp_put oj hsj a oi.dst v h1] at h
  generalize (execOp a.eval oj).run P w=r at *
  cases r with
  | ok n w'=>
   cases n <;> simp only [Oper.upon] at h ⊢
   case value u=>exact fin u w' h
   case skip=>exact fin _ w' h
   case defer d=>
    obtain ⟨k1,A',k2,k3⟩:=h
    refine ⟨k1,A',k2,keep _ w' A' (keepD d) (hCw _ _ k1 k2) _,?_⟩
    rw [<-Act.put_comm _ v undef h2,<-Act.put_defers]
    exact k3
   case enter f args=>
    refine Calls.mono h fun e w'' he => ?_
    cases e with
    | returned u=>exact fin u w'' he
    | panicked c=>exact hQ _ _ _ he
    | outgrown=>exact he
   case row row args=>exact Rows.mono h fun u w'' he=>fin u w'' he
  | halt x w'=>
   cases x <;> simp only [Oper.upon] at h ⊢
   case panic u=>exact hQ _ _ _ h
 ·rename_i hw
  simp only [hw] at h
  exact fin _ w h
theorem dG.wpOp {C:s9} (hr:∀w A,C w A w A) {i:Nat} {o:Oper} {v:Value} {a:Act} {w:World} {A:ah} (hi:ops[i]?=some o) (hy:dG P ops C o v a w A)
  {K:Act->World->ah->Prop} (h:K (a.put o.dst v) w A):wpOp P ops Q i (fun a' w'=>(loud i=false->Below w.heap.size w w')/\∃A',ck w A w' A'/\K a' w' A') a w:=by
 unfold Go.wpOp
 simp only [hi]
 rcases hy with ⟨hw,hv⟩ | ⟨hw,rfl⟩
 ·simp only [hw,if_true,Oper.wp,hv w A (hr w A),Oper.upon];exact .inl ⟨fun _=>Below.refl _ _,A,ck.refl _ _,h⟩
 ·simp only [hw,Bool.false_eq_true,if_false];exact ⟨fun _=>Below.refl _ _,A,ck.refl _ _,h⟩
theorem oM {listed:Array Bool} {i:Nat} (hc:nT ops listed) (hr:i∈Region.ready .any ops listed):nT ops (listed.setIfInBounds i true):=by
 intro j o ho hj e he hb
 by_cases hij:i=j
 ·subst hij
  obtain ⟨_,o',ho',hall⟩:=mem_ready.1 hr
  rw [ho] at ho'
  cases ho'
  exact getD_set_true (hall e he hb)
 ·rw [getD_set_ne false hij] at hj
  exact getD_set_true (hc j o ho hj e he hb)
theorem E7 {C:s9} (hrefl:∀w A,C w A w A) (ht:∀a A b B c D,C a A b B->C b B c D->C a A c D) {i:Nat} {oi:Oper} {v:Value} (hi:ops[i]?=some oi)
  (hsel:∀(j:Nat) (o:Oper) cs b,ops[j]?=some o->o.op≠.select cs b)
  (hQ:∀c a w,Q (.panic c) (a.put oi.dst v) w->Q (.panic c) a w) :
  ∀(fuel:Nat) (listed:Array Bool) (a:Act) (w:World) (A:ah),nT ops listed->
   (∀j oj,ops[j]?=some oj->j≠i->listed.getD j true=false->(∀e∈oj.after,Region.binds .any e=true->e.on≠i)->oi.apart ops oj=true)->
   ((∀w A w' A',ck w A w' A'->C w A w' A')\/((∀w A w' A',Below w.heap.size w w'->C w A w' A')/\∀j,listed.getD j true=false->j≠i->loud j=true->lg ops i j))->
   i∈Region.ready .any ops listed->dG P ops C oi v a w A->
   wpS P ops loud Q fuel (listed.setIfInBounds i true) (a.put oi.dst v) w A->wpS P ops loud Q (fuel + 1) listed a w A:=by
 intro fuel
 induction fuel with
 | zero=>
  intro listed a w A _ _ _ hr hy H
  refine ⟨fun h=>(by rw [h] at hr;cases hr),fun j hj => ?_⟩
  by_cases hji:j=i
  ·subst hji;exact hy.wpOp hrefl hi H
  ·have:=ready_mono hj hji
   rw [H.1] at this
   cases this
 | succ fuel ih=>
  intro listed a w A cz hfree hC hr hy H
  refine ⟨fun h=>(by rw [h] at hr;cases hr),fun j hj => ?_⟩
  by_cases hji:j=i
  ·subst hji;exact hy.wpOp hrefl hi H
  ·have h1:=H.2 j (ready_mono hj hji)
   obtain ⟨hjun,oj,hoj,hall⟩:=mem_ready.1 hj
   have hiun:listed.getD i false≠true:=by
    have h0:=(mem_ready.1 hr).1
    rcases Nat.lt_or_ge i listed.size with h' | h'
    ·simp [h'] at h0 ⊢;exact h0
    ·simp [Array.getElem?_eq_none h']
   have hnot:∀e∈oj.after,Region.binds .any e=true->e.on≠i:=fun e he hb heq=>hiun (heq▸hall e he hb)
   have hCw:∀w' A',(loud j=false->Below w.heap.size w w')->ck w A w' A'->C w A w' A':=by
    intro w' A' hb hd
    rcases hC with hC | ⟨hC1,hC2⟩
    ·exact hC w A w' A' hd
    ·refine hC1 w A w' A' (hb ?_)
     cases hl:loud j
     ·rfl
     ·exact absurd ((hC2 j hjun hji hl).listed cz (fun o ho=>by rw [hoj] at ho;cases ho;exact hall)) hiun
   have h2:=E6 ht hoj (hfree j oj hoj hji hjun hnot) (fun cs b=>hsel i oi cs b hi) (fun cs b=>hsel j oj cs b hoj) hQ hCw hy h1
   have hfree':∀k ok,ops[k]?=some ok->k≠i->(listed.setIfInBounds j true).getD k true=false->
     (∀e∈ok.after,Region.binds .any e=true->e.on≠i)->oi.apart ops ok=true:=fun k ok hk hki hun hno=>by
    refine hfree k ok hk hki ?_ hno
    by_cases hjk:j=k
    ·subst hjk;exact hjun
    ·rw [getD_set_ne true hjk] at hun;exact hun
   have hC':(∀w A w' A',ck w A w' A'->C w A w' A')\/((∀w A w' A',Below w.heap.size w w'->C w A w' A')/\∀k,(listed.setIfInBounds j true).getD k true=false->k≠i->loud k=true->lg ops i k):=by
    rcases hC with hC | ⟨hC1,hC2⟩
    ·exact .inl hC
    ·refine .inr ⟨hC1,fun k hk=>hC2 k ?_⟩
     by_cases hjk:j=k
     ·subst hjk;exact hjun
     ·rw [getD_set_ne true hjk] at hk;exact hk
   refine wpOp_mono (fun a' w' h3 => ?_) h2
   obtain ⟨k1,A',k2,k3,k4⟩:=h3
   refine ⟨k1,A',k2,ih (listed.setIfInBounds j true) a' w' A' (oM cz hj) hfree' hC' (ready_mono hr (Ne.symm hji)) k3 ?_⟩
   rw [Array.setIfInBounds_comm _ _ hji]
   exact k4
end
end Go.Vg

namespace Go.Vg
open Go.RowKit
def uq (cx:Cx) (st:St) (dst:Option Tmp) (sv:SV) (K:St->VC):VC:=
 match dst with
 | some d=>match Nat.blt d cx.N with
  | true=>K {st with env:=(d,sv) :: st.env}
  | false => .ff
 | none=>K st
def K0:Bool->Bool->Bool
 | true,b=>b
 | false,true=>false
 | false,false=>true
def iq (st:St) (d:Nat) (b:Bool):St:={st with env:=(d, .s (.one (.lit b))) :: st.env}
def rl (opl:List Oper) (st:St) (o:Oper) (exec skip:St->VC):VC:=
 match o.guard with
 | none=>exec st
 | some (j,want)=>match opl[j]? with
  | some oj=>match oj.dst with
   | some d=>match look st.env d with
    | some (.s (.one (.lit b)))=>match K0 b want with
     | true=>exec st
     | false=>skip st
    | some (.s (.one (.d .bool g)))=>match want with
     | true => .ite g (exec (iq st d true)) (skip (iq st d false))
     | false => .ite g (skip (iq st d true)) (exec (iq st d false))
    | some (.gK [])=>skip st
    | _ => .ff
   | none => .ff
  | none => .ff
def gR (cx:Cx) (opl:List Oper) (st:St) (o:Oper) (K:St->VC):VC:=
 rl opl st o (fun st=>qh cx st o fun sv st'=>uq cx st' o.dst sv K) (fun st=>uq cx st o.dst (.gK []) K)
def ya (cx:Cx) (opl:List Oper):List Oper->St->(St->VC)->VC
 | [],st,K=>K st
 | o :: r,st,K=>gR cx opl st o fun st'=>ya cx opl r st' K
def eK (cx:Cx) (opl:List Oper) (j:Nat):Bool:=
 match opl[j]? with
 | some o=>Nat.beq (kindOf cx o) 3
 | none=>false
def nU (cx:Cx) (opl:List Oper) (ms:List Nat) (listed:Array Bool) (i:Nat):Bool:=
 match opl[i]? with
 | some o=>match kindOf cx o with
  | 0=>true
  | 1=>(List.range opl.length).all fun j=>Nat.beq j i || listed.getD j true || !(eK cx opl j) || (ms.getD j 0).testBit i
  | _=>false
 | none=>false
def oN (cx:Cx) (ops:Array Oper) (st:St) (i:Nat):Bool:=
 match ops[i]? with
 | some o=>match o.op,o.guard with
  | .load _ x,none=>match bP st.env x with
   | .jm _ _=>true
   | _=>false
  | _,_=>false
 | none=>false
def yb:List Nat->(Nat->VC)->VC
 | [],_ => .leaf True
 | [i],f=>f i
 | i :: j :: r,f => .both (f i) (yb (j :: r) f)
def gI (cx:Cx) (ops:Array Oper) (ms:List Nat):Nat->Array Bool->St->(St->VC)->VC
 | 0,listed,st,K=>match Region.ready .any ops listed with
  | []=>K st
  | _ => .ff
 | n + 1,listed,st,K=>match Region.ready .any ops listed with
  | []=>K st
  | r :: rs=>match (r :: rs).find? (fun i=>nU cx ops.toList ms listed i || oN cx ops st i) with
   | some i=>match ops[i]? with
    | some o=>gR cx ops.toList st o fun st'=>gI cx ops ms n (listed.setIfInBounds i true) st' K
    | none => .ff
   | none=>yb (r :: rs) fun i=>match ops[i]? with
    | some o=>gR cx ops.toList st o fun st'=>gI cx ops ms n (listed.setIfInBounds i true) st' K
    | none => .ff
def ta (o:Oper):Nat:=o.after.toList.foldl (fun s e=>match Region.binds .any e with
 | true=>s ||| (1 <<< e.on)
 | false=>s) 0
def E8 (am m i:Nat):Bool:=!(m.testBit i) && Nat.beq (am &&& m) am
def iP:List Nat->Nat->Nat->List Nat
 | [],_,_=>[]
 | am :: r,m,i=>match E8 am m i with
  | true=>i :: iP r m (i + 1)
  | false=>iP r m (i + 1)
def oO (m i:Nat):List Bool->List Nat->Nat->Bool
 | l :: ls,a :: ms,j=>match l && (!(Nat.beq j i) && (!(m.testBit j) && !(a.testBit i))) with
  | true=>false
  | false=>oO m i ls ms (j + 1)
 | _,_,_=>true
def rm (ks:List Nat) (ls:List Bool) (ms:List Nat) (m i:Nat):Bool:=
 match ks.getD i 2 with
 | 0=>true
 | 1=>oO m i ls ms 0
 | _=>false
def anyM (cx:Cx) (ops:Array Oper) (am ks:List Nat) (ls:List Bool) (ms:List Nat):Nat->Nat->St->(St->VC)->VC
 | 0,m,st,K=>match iP am m 0 with
  | []=>K st
  | _ => .ff
 | n + 1,m,st,K=>match iP am m 0 with
  | []=>K st
  | r :: rs=>match (r :: rs).find? (fun i=>rm ks ls ms m i || oN cx ops st i) with
   | some i=>match ops[i]? with
    | some o=>gR cx ops.toList st o fun st'=>anyM cx ops am ks ls ms n (m ||| (1 <<< i)) st' K
    | none => .ff
   | none=>yb (r :: rs) fun i=>match ops[i]? with
    | some o=>gR cx ops.toList st o fun st'=>anyM cx ops am ks ls ms n (m ||| (1 <<< i)) st' K
    | none => .ff
def J6 (cx:Cx) (ops:Array Oper) (st:St) (K:St->VC):VC:=
 anyM cx ops (ops.toList.map ta) (ops.toList.map (kindOf cx)) (ops.toList.map fun o=>Nat.beq (kindOf cx o) 3) (dE ops.toList) ops.size 0 st K
def vM (oj:Oper) (i:Nat):Bool:=oj.after.any fun e=>Region.binds .any e && Nat.beq e.on i
def oP (ops:Array Oper):Bool:=
 Region.noSelect ops && (List.range ops.size).all fun i=>(List.range ops.size).all fun j=>match ops[i]?,ops[j]? with
  | some oi,some oj=>Nat.beq j i || vM oj i || vM oi j || oi.apart ops oj
  | _,_=>true
section
variable {X:Ext} {P:Program} {cx:Cx} {Q:Exit->Act->World->Prop}
structure cw (cx:Cx) (S:aH) (st:St) (a:Act):Prop where
 size:a.tmps.size=cx.N
 defers:a.defers = []
 env:cJ cx.eT S st.env a
def allM:Nat:=4000000
def ir (W:List Nat) (st st':St):Prop:=allM∉W->∀t,t∉W->∀v,look st'.env t=some v->look st.env t=some v
def cB (cx:Cx) (X:Ext) (O:ah) (K:St->VC) (W:List Nat) (st:St) (S:aH):Act->World->Prop:=
 fun a' w'=>∃st' loc',(K st').holds/\Good cx.eT X (ae O st' loc' w')/\Tr S (ae O st' loc' w')/\cw cx (ae O st' loc' w') st' a'/\ir W st st'
theorem cJ.tr {S S':aH} {env:List (Nat × SV)} {a:Act} (h:cJ cx.eT S env a) (t:Tr S S'):cJ cx.eT S' env a:=fun i sv hi=>(h i sv hi).tr t
theorem cw.put {S S':aH} {st st':St} {a:Act} {d:Nat} {v:Value} {sv:SV} (h:cw cx S st a) (t:Tr S S') (he:st'.env=(d,sv) :: st.env) (hd:d < cx.N) (hv:bH cx.eT S' sv v):cw cx S' st' (a.put (some d) v):=by
 refine ⟨by simp [Act.put,h.size],h.defers,fun i sv' hi => ?_⟩
 rw [he,aU] at hi
 simp only [Act.put]
 by_cases e:d=i
 ·rw [if_pos e] at hi
  cases hi
  subst e
  rw [Array.getD_eq_getD_getElem?,Array.getElem?_setIfInBounds,if_pos rfl,if_pos (by rw [h.size];exact hd)]
  exact hv
 ·rw [if_neg e] at hi
  rw [Array.getD_eq_getD_getElem?,Array.getElem?_setIfInBounds,if_neg e,<-Array.getD_eq_getD_getElem?]
  exact (h.env i sv' hi).tr t
theorem iR {O:ah} {st st0:St} {S:aH} {loc:Nat->Loc} {w:World} {a:Act} {dst:Option Tmp} {sv:SV} {v:Value} {K:St->VC} {W:List Nat} (h:(uq cx st dst sv K).holds)
  (hA:cw cx S st0 a) (ht:Tr S (ae O st loc w)) (he:st.env=st0.env) (hv:bH cx.eT (ae O st loc w) sv v) (g:Good cx.eT X (ae O st loc w)) (hW:∀d,dst=some d->d∈W) :
  cB cx X O K W st0 S (a.put dst v) w:=by
 unfold uq at h
 split at h
 ·rename_i d
  split at h
  ·rename_i hd
   refine ⟨{st with env:=(d,sv) :: st.env},loc,h,g,ht,?_,fun _ t htW v hv => ?_⟩
   ·have:=hA.put (st':={st with env:=(d,sv) :: st.env}) ht (by rw [<-he]) (gk hd) hv
    exact ⟨this.size,this.defers,this.env⟩
   ·have hv:look ((d,sv) :: st.env) t=some v:=hv
    rw [aU,if_neg (fun (e:d=t)=>htW (e▸hW d rfl)),he] at hv
    exact hv
  ·exact h.elim
 ·refine ⟨st,loc,h,g,ht,⟨hA.size,hA.defers,by rw [he];exact hA.env.tr ht⟩,fun _ t _ v hv=>by rw [he] at hv;exact hv⟩
theorem I4 (a b:Bool):K0 a b=(a == b):=by cases a <;> cases b <;> rfl
theorem E9 {O:ah} {st:St} {loc:Nat->Loc} {w:World} {a:Act} {d:Nat} {b:Bool} (hA:cw cx (ae O st loc w) st a) (hv:a.tmps.getD d undef = .bool b) :
  cw cx (ae O (iq st d b) loc w) (iq st d b) a:=by
 refine ⟨hA.size,hA.defers,fun i sv hi => ?_⟩
 simp only [iq,aU] at hi
 by_cases e:d=i
 ·rw [if_pos e] at hi
  cases hi
  subst e
  rw [hv];rfl
 ·rw [if_neg e] at hi
  exact hA.env i sv hi
theorem yX {ops:Array Oper} {a:Act} {j d:Nat} {oj:Oper} {b:Bool} (hj:ops[j]?=some oj) (hd:oj.dst=some d) (hlt:d < a.tmps.size) (hv:a.tmps.getD d undef = .bool b):yielded ops a.tmps j=some b:=by
 have:a.tmps[d]?=some (.bool b):=by
  rw [Array.getElem?_eq_getElem hlt]
  rw [Array.getD_eq_getD_getElem?,Array.getElem?_eq_getElem hlt] at hv
  simpa using hv
 simp [yielded,hj,hd,this]
theorem pK {O:ah} {st:St} {loc:Nat->Loc} {w:World} {a:Act} {ops:Array Oper} {o:Oper} {exec skip:St->VC} {W:List Nat} (hA:cw cx (ae O st loc w) st a) (g:Good cx.eT X (ae O st loc w))
  (hW:∀(j:Nat) (oj:Oper) (d:Nat),ops[j]?=some oj->oj.dst=some d->d∈W)
  (h:(rl ops.toList st o exec skip).holds) :
  ∃st',cw cx (ae O st' loc w) st' a/\Good cx.eT X (ae O st' loc w)/\ae O st' loc w=ae O st loc w/\ir W st st'/\
   ((Region.wanted o (yielded ops a.tmps)=true/\(exec st').holds)\/(Region.wanted o (yielded ops a.tmps)=false/\(skip st').holds)):=by
 unfold rl at h
 split at h
 ·rename_i hg
  exact ⟨st,hA,g,rfl,fun _ _ _ _ h=>h, .inl ⟨by simp [Region.wanted,hg],h⟩⟩
 ·rename_i j want hg
  split at h
  ·rename_i oj hj
   have hj':ops[j]?=some oj:=by rw [<-Array.getElem?_toList];exact hj
   split at h
   ·rename_i d hd
    have key:∀b,a.tmps.getD d undef = .bool b->Region.wanted o (yielded ops a.tmps)=(b == want):=by
     intro b hb
     have hlt:d < a.tmps.size:=by
      rcases Nat.lt_or_ge d a.tmps.size with h' | h'
      ·exact h'
      ·rw [Array.getD_eq_getD_getElem?,Array.getElem?_eq_none h'] at hb;cases hb
     simp [Region.wanted,hg,yX hj' hd hlt hb]
    have lit:∀b,a.tmps.getD d undef = .bool b->cw cx (ae O (iq st d b) loc w) (iq st d b) a/\Good cx.eT X (ae O (iq st d b) loc w)/\ae O (iq st d b) loc w=ae O st loc w/\ir W st (iq st d b):=
     fun b hb=>⟨E9 hA hb,g,rfl,fun _ t ht v hv=>by simp only [iq,aU] at hv;rwa [if_neg (fun (e:d=t)=>ht (e▸hW j oj d hj' hd))] at hv⟩
    split at h
    ·rename_i b hl
     have hv:a.tmps.getD d undef = .bool b:=hA.env d _ hl
     have hk:=key b hv
     rw [<-I4] at hk
     split at h
     ·rename_i he;exact ⟨st,hA,g,rfl,fun _ _ _ _ h=>h, .inl ⟨by rw [hk,he],h⟩⟩
     ·rename_i he;exact ⟨st,hA,g,rfl,fun _ _ _ _ h=>h, .inr ⟨by rw [hk,he],h⟩⟩
    ·rename_i b hl
     have hv:a.tmps.getD d undef = .bool b:=(bX (eT:=cx.eT) (S:=ae O st loc w) (b:=b)).1 (hA.env d _ hl)
     have hk:=key b hv
     obtain ⟨l1,l2,l3,l4⟩:=lit b hv
     split at h
     ·cases b
      ·exact ⟨_,l1,l2,l3,l4, .inr ⟨by rw [hk];rfl,h.2 rfl⟩⟩
      ·exact ⟨_,l1,l2,l3,l4, .inl ⟨by rw [hk];rfl,h.1 rfl⟩⟩
     ·cases b
      ·exact ⟨_,l1,l2,l3,l4, .inl ⟨by rw [hk];rfl,h.2 rfl⟩⟩
      ·exact ⟨_,l1,l2,l3,l4, .inr ⟨by rw [hk];rfl,h.1 rfl⟩⟩
    ·rename_i hl
     obtain ⟨vs,hv,hvs⟩:=hA.env d _ hl
     cases hvs
     have hy:yielded ops a.tmps j=none:=by
      rw [Array.getD_eq_getD_getElem?] at hv
      simp only [yielded,hj',hd,Option.bind_some]
      cases ht:a.tmps[d]? with
      | none=>rfl
      | some x=>rw [ht] at hv;simp only [Option.getD_some] at hv;subst hv;rfl
     exact ⟨st,hA,g,rfl,fun _ _ _ _ h=>h, .inr ⟨by simp [Region.wanted,hg,hy],h⟩⟩
    ·exact h.elim
   ·exact h.elim
  ·exact h.elim
theorem ir.trans {W:List Nat} {a b c:St} (h:ir W a b) (h':ir W b c):ir W a c:=fun hm t ht v hv=>h hm t ht v (h' hm t ht v hv)
theorem cB.mono {O:ah} {K:St->VC} {W:List Nat} {st st1:St} {S S1:aH} {a:Act} {w:World} (h:cB cx X O K W st1 S1 a w) (ht:Tr S S1) (ha:ir W st st1):cB cx X O K W st S a w:=by
 obtain ⟨st',loc',k1,k2,k3,k4,k5⟩:=h
 exact ⟨st',loc',k1,k2,ht.trans k3,k4,ha.trans k5⟩
theorem qk (hok:fw P cx X) {O:ah} {st:St} {loc:Nat->Loc} {w:World} {a:Act} {ops:Array Oper} {o:Oper} {K:St->VC} {W:List Nat} (hA:cw cx (ae O st loc w) st a) (g:Good cx.eT X (ae O st loc w)) (hO:bZ O w)
  (hW:∀(j:Nat) (oj:Oper) (d:Nat),ops[j]?=some oj->oj.dst=some d->d∈W) (hWo:∀d,o.dst=some d->d∈W) (h:(gR cx ops.toList st o K).holds) :
  if Region.wanted o (yielded ops a.tmps) then o.wp P a w (fun a' w'=>(Nat.beq (kindOf cx o) 3=false->Below w.heap.size w w')/\cB cx X O K W st (ae O st loc w) a' w') Q
  else cB cx X O K W st (ae O st loc w) (a.put o.dst undef) w:=by
 obtain ⟨st',hA',g',hs,hag,hcase⟩:=pK hA g hW h
 rcases hcase with ⟨hw,h'⟩ | ⟨hw,h'⟩
 ·rw [if_pos hw]
  refine Oper.wp_mono ?_ (Ho hok g' hO hA'.env h')
  rintro a' w' ⟨v,sv,st2,loc2,rfl,k1,k2,k3,k4,k5,k6⟩
  refine ⟨fun hl=>k3 hl,?_⟩
  exact (iR k1 hA' k5 k2 k6 k4 hWo).mono (by rw [hs];exact Tr.refl _) hag
 ·rw [if_neg (by simp [hw])]
  exact (iR (loc:=loc) (w:=w) h' hA' (Tr.refl _) rfl (show bH cx.eT _ (.gK []) undef from ⟨[],rfl, .nil⟩) g' hWo).mono (by rw [hs];exact Tr.refl _) hag
theorem r5 (hok:fw P cx X) {O:ah} {ops:Array Oper} {W:List Nat} (hW:∀(j:Nat) (oj:Oper) (d:Nat),ops[j]?=some oj->oj.dst=some d->d∈W) {K:St->VC}:∀(l:List Oper) {st:St} {loc:Nat->Loc} {w:World} {a:Act},(∀o∈l,∀d,o.dst=some d->d∈W)->
  cw cx (ae O st loc w) st a->Good cx.eT X (ae O st loc w)->bZ O w->(ya cx ops.toList l st K).holds->(∀st' loc' a' w',(K st').holds->Good cx.eT X (ae O st' loc' w')->Tr (ae O st loc w) (ae O st' loc' w')->cw cx (ae O st' loc' w') st' a'->ir W st st'->Q .normal a' w')->
  wpList P ops Q l a w:=by
 intro l
 induction l with
 | nil=>intro st loc w a _ hA g _ h hq;exact hq st loc a w h g (Tr.refl _) hA fun _ _ _ _ h=>h
 | cons o l ih=>
  intro st loc w a hWl hA g hO h hq
  have hs:=qk (Q:=Q) (P:=P) hok hA g hO hW (hWl o (by simp)) h
  have next:∀a' w',cB cx X O (fun st'=>ya cx ops.toList l st' K) W st (ae O st loc w) a' w'->wpList P ops Q l a' w':=by
   rintro a' w' ⟨st',loc',k1,k2,k3,k4,k5⟩
   exact ih (fun o' ho'=>hWl o' (by simp [ho'])) k4 k2 (hO.tr k3.size) k1 fun st2 loc2 a2 w2 m1 m2 m3 m4 m5=>hq st2 loc2 a2 w2 m1 m2 (k3.trans m3) m4 (k5.trans m5)
  unfold wpList
  split
  ·rename_i hw
   rw [if_pos hw] at hs
   exact .inl (Oper.wp_mono (fun a' w' h'=>next a' w' h'.2) hs)
  ·rename_i hw
   rw [if_neg hw] at hs
   exact next _ _ hs
theorem Fa (hok:fw P cx X) {O:ah} {st:St} {loc:Nat->Loc} {w:World} {a:Act} (g:Good cx.eT X (ae O st loc w)) (hO:bZ O w) (he:cJ cx.eT (ae O st loc w) st.env a)
  {o:Oper} {K:SV->St->VC} (hk:kindOf cx o=0\/kindOf cx o=1) (h:(qh cx st o K).holds) :
  ∃v sv st' loc',(K sv st').holds/\st'.env=st.env/\Good cx.eT X (ae O st' loc' w)/\Tr (ae O st loc w) (ae O st' loc' w)/\bH cx.eT (ae O st' loc' w) sv v/\
   ∀w',(kindOf cx o=0\/Below w.heap.size w w')->(execOp a.eval o).run P w' = .ok (.value v) w':=by
 have same:∀{sv:SV} {v:Value},(K sv st).holds->bH cx.eT (ae O st loc w) sv v->(∀w',(kindOf cx o=0\/Below w.heap.size w w')->(execOp a.eval o).run P w' = .ok (.value v) w')->
   ∃v sv st' loc',(K sv st').holds/\st'.env=st.env/\Good cx.eT X (ae O st' loc' w)/\Tr (ae O st loc w) (ae O st' loc' w)/\bH cx.eT (ae O st' loc' w) sv v/\
   ∀w',(kindOf cx o=0\/Below w.heap.size w w')->(execOp a.eval o).run P w' = .ok (.value v) w':=
  fun h1 h2 h3=>⟨_,_,st,loc,h1,rfl,g,Tr.refl _,h2,h3⟩
 have pure:(tV cx st o.op fun sv=>K sv st).holds->∃v sv st' loc',(K sv st').holds/\st'.env=st.env/\Good cx.eT X (ae O st' loc' w)/\Tr (ae O st loc w) (ae O st' loc' w)/\bH cx.eT (ae O st' loc' w) sv v/\
   ∀w',(kindOf cx o=0\/Below w.heap.size w w')->(execOp a.eval o).run P w' = .ok (.value v) w':=by
  intro h
  obtain ⟨sv,v,h1,h2,h3⟩:=pY (P:=P) hok.toTyOK g he h
  exact same h1 h2 fun w' _=>h3 w'
 have mov:∀x ty,(∀w',(execOp a.eval o).run P w' = .ok (.value (a.eval x)) w')->(rh cx st x ty K).holds->∃v sv st' loc',(K sv st').holds/\st'.env=st.env/\Good cx.eT X (ae O st' loc' w)/\Tr (ae O st loc w) (ae O st' loc' w)/\bH cx.eT (ae O st' loc' w) sv v/\
   ∀w',(kindOf cx o=0\/Below w.heap.size w w')->(execOp a.eval o).run P w' = .ok (.value v) w':=by
  intro x ty hrun h
  obtain ⟨sv,st',loc',h1,h2,h3,h4,h5⟩:=rX g hO he h
  exact ⟨_,sv,st',loc',h1,h2,h3,h4,h5,fun w' _=>hrun w'⟩
 have read:(jJ cx st o.op fun sv=>K sv st).holds->∃v sv st' loc',(K sv st').holds/\st'.env=st.env/\Good cx.eT X (ae O st' loc' w)/\Tr (ae O st loc w) (ae O st' loc' w)/\bH cx.eT (ae O st' loc' w) sv v/\
   ∀w',(kindOf cx o=0\/Below w.heap.size w w')->(execOp a.eval o).run P w' = .ok (.value v) w':=by
  intro h
  unfold jJ at h
  simp only at h
  split at h
  ·rename_i t x i hop
   split at h
   ·rename_i n hn
    obtain ⟨k,hk',_⟩:=il hn (aK he i)
    obtain ⟨c,u,h1,h2,h3⟩:=wA (P:=P) hok.toTyOK g (k:=k) (aK he x) h
    exact same h1 h2 fun w' _=>by simp [execOp,hop,hk',h3]
   ·exact h.elim
  ·rename_i t x f hop
   obtain ⟨c,u,h1,h2,h3⟩:=rV (P:=P) hok.toTyOK (aK he x) h
   exact same h1 h2 fun w' _=>by simp [execOp,hop,h3]
  ·rename_i t x hop
   obtain ⟨c,u,h1,h2,h3⟩:=oD (P:=P) hok.toTyOK g (aK he x) h
   refine same h1 h2 fun w' hb => ?_
   have hb:Below w.heap.size w w':=by
    rcases hb with hb | hb
    ·simp [kindOf,hop] at hb
    ·exact hb
   simp [execOp,hop,h3 w' hb]
  ·rename_i t x lo hi hop
   obtain ⟨c,u,h1,h2,h3⟩:=rW (P:=P) hok.toTyOK g he (aK he x) h
   exact same h1 h2 fun w' _=>by simp [execOp,hop,h3]
  ·exact pure h
 unfold qh at h
 split at h
 ·rename_i hm;rw [oL hm] at hk;omega
 unfold um at h
 split at h
 ·rename_i s t x hop
  unfold s7 at h
  split at h
  ·rename_i hs ht;simp [kindOf,hop,ht] at hk
  ·rename_i hs ht;simp [kindOf,hop,ht] at hk
  ·exact read h
  ·exact h.elim
 ·rename_i x hop
  exact mov x _ (fun w'=>by simp [execOp,hop]) h
 ·rename_i x hop
  unfold Dn at h
  split at h
  ·obtain ⟨sv,st',loc',h1,h2,h3,h4,h5⟩:=qg g hO he h
   exact ⟨_,sv,st',loc',h1,h2,h3,h4,h5,fun w' _=>by simp [execOp,hop]⟩
  ·exact mov x _ (fun w'=>by simp [execOp,hop]) h
 ·rename_i t hop;simp [kindOf,hop] at hk
 ·rename_i t x hop;simp [kindOf,hop] at hk
 ·rename_i t ps hop
  obtain ⟨sv,v,h1,h2,h3⟩:=pJ hok.toTyOK g he h
  exact same h1 h2 fun w' _=>by have:=h3 w';simp only [execOp,hop,Sem.run_bind,Sem.run_pure];rw [this];rfl
 ·rename_i t n ps hop;simp [kindOf,hop] at hk
 ·rename_i t l c hop;simp [kindOf,hop] at hk
 ·rename_i t x v hop;simp [kindOf,hop] at hk
 ·rename_i fn first caps hop
  split at h
  ·rename_i f ns hfi hcn
   obtain ⟨k1,k2⟩:=qj he hcn
   have hfi':first = #[]:=Array.toList_inj.1 hfi
   have hca:caps.map a.eval=(ns.map fun n=>(loc n).v).toArray:=by
    apply Array.toList_inj.1
    rw [Array.toList_map,k1]
   refine same (v:=.func (.func f) #[] (ns.map fun n=>(loc n).v).toArray) h ⟨rfl,k2⟩ fun w' _ => ?_
   simp [execOp,hop,Instr.makeFunc,hfi',hca]
  ·exact h.elim
 ·rename_i c hop
  unfold s6 at h
  split at h
  ·rename_i f hcal
   exfalso
   have:kindOf cx o=2\/kindOf cx o=3:=by
    unfold kindOf
    simp only [hop,hcal]
    split
    ·rename_i heq;cases heq
    ·rename_i heq;cases heq
    ·rename_i heq;cases heq
    ·split
     ·exact .inl rfl
     ·exact .inr rfl
    ·split
     ·exact .inl rfl
     ·exact .inr rfl
    ·exact .inr rfl
   omega
  ·rename_i hcal;simp [kindOf,hop,hcal] at hk
  ·rename_i hcal;simp [kindOf,hop,hcal] at hk
  ·rename_i hcal
   split at h
   ·rename_i x y harg
    have h1:c.args = #[x,y]:=Array.toList_inj.1 harg
    obtain ⟨c',v,k1,k2,k3⟩:=oK (P:=P) (aK he x) (aK he y) h
    refine same (v:=v) k1 k2 fun w' _ => ?_
    have k3:=k3 w'
    simp only [if_true] at k3
    simp [execOp,hop,resolve,hcal,h1,invoke,builtin,Builtin.max_,k3]
   ·exact h.elim
  ·rename_i hcal
   split at h
   ·rename_i x y harg
    have h1:c.args = #[x,y]:=Array.toList_inj.1 harg
    obtain ⟨c',v,k1,k2,k3⟩:=oK (P:=P) (aK he x) (aK he y) h
    refine same (v:=v) k1 k2 fun w' _ => ?_
    have k3:=k3 w'
    simp only [Bool.false_eq_true,if_false] at k3
    simp [execOp,hop,resolve,hcal,h1,invoke,builtin,Builtin.min_,k3]
   ·exact h.elim
  ·exact read h
 ·exact read h
theorem Dq {ops:Array Oper} {st:St} {i:Nat} {o:Oper} (ho:ops[i]?=some o) (h:oN cx ops st i=true):∃t x u y,o.op = .load t x/\o.guard=none/\bP st.env x = .jm u y:=by
 unfold oN at h
 rw [ho] at h
 simp only at h
 split at h
 ·rename_i t x hop hg
  split at h
  ·rename_i u y hev;exact ⟨t,x,u,y,hop,hg,hev⟩
  ·cases h
 ·cases h
theorem Fb {ops:Array Oper} {loud:Nat->Bool} {n:Nat} {listed:Array Bool} {a:Act} {w:World} {A A':ah} (h:ck w A w A') (hw:wpS P ops loud Q n listed a w A'):wpS P ops loud Q n listed a w A:=by
 cases n with
 | zero=>exact hw
 | succ n=>exact ⟨hw.1,fun i hi=>wpOp_mono (fun a' w' h'=>⟨h'.1,let ⟨A2,k1,k2⟩:=h'.2;⟨A2,h.trans k1,k2⟩⟩) (hw.2 i hi)⟩
theorem I5 (hok:fw P cx X) {O:ah} {st:St} {loc:Nat->Loc} {w:World} {a:Act} (g:Good cx.eT X (ae O st loc w)) (hO:bZ O w) (he:cJ cx.eT (ae O st loc w) st.env a)
  {o:Oper} {K:SV->St->VC} {t:TypeId} {x:Operand} {u:Ty} {y:D u} (hop:o.op = .load t x) (hev:bP st.env x = .jm u y) (h:(qh cx st o K).holds) :
  ∃v sv,(K sv st).holds/\bH cx.eT (ae O st loc w) sv v/\∀w' A',ck w (ae O st loc w).A w' A'->(execOp a.eval o).run P w' = .ok (.value v) w':=by
 have hx:=aK he x
 rw [hev] at hx
 unfold qh at h
 split at h
 ·rename_i hm;have:=oL hm;simp [kindOf,hop] at this
 unfold um at h
 rw [hop] at h
 simp only at h
 unfold jJ at h
 simp only at h
 rw [hev] at h
 unfold p3 at h
 split at h
 ·rename_i ty ht
  obtain ⟨m,i,d,hf,hs⟩:=cj hok.toTyOK ht
  simp only at h
  split at h
  ·rename_i hb
   obtain ⟨b,o',us,hvx,hr,hrow⟩:=hx
   have hr:=gL hb y hr
   obtain ⟨v,h1,h2⟩:=cR hf hs hr.length w (fun j v hj=>(hrow j v hj).1)
   refine ⟨v,_,h,iO hr h2,fun w' A' hd => ?_⟩
   obtain ⟨v',h3,h4⟩:=cR (P:=P) hf hs hr.length w' (fun j v hj=>(hd _ _ _ (hrow j v hj).2 (hrow j v hj).1).1)
   have e:v'=v:=by
    split at h2
    ·rename_i ho;rw [if_pos ho] at h4;rw [h2] at h4;exact (List.cons.inj h4).1.symm
    ·rename_i ho;rw [if_neg ho] at h4;rw [h2,h4]
   have:=h3 w' (Below.refl _ _)
   rw [e] at this
   simp [execOp,hop,hvx,this]
  ·exact h.elim
 ·exact h.elim
theorem xX {ops:Array Oper} (h:oP ops=true):Region.noSelect ops=true/\∀(i j:Nat) (oi oj:Oper),ops[i]?=some oi->ops[j]?=some oj->j≠i->vM oj i=false->vM oi j=false->oi.apart ops oj=true:=by
 simp only [oP,Bool.and_eq_true,List.all_eq_true,List.mem_range] at h
 refine ⟨h.1,fun i j oi oj hi hj hne h1 h2 => ?_⟩
 have:=h.2 i (Array.getElem?_eq_some_iff.1 hi).1 j (Array.getElem?_eq_some_iff.1 hj).1
 rw [hi,hj] at this
 simp only [Bool.or_eq_true,h1,h2,Bool.false_eq_true,or_false] at this
 rcases this with this | this
 ·exact absurd (Nat.eq_of_beq_eq_true this) hne
 ·exact this
theorem ur {oj:Oper} {i:Nat} (h:∀e∈oj.after,Region.binds .any e=true->e.on≠i):vM oj i=false:=by
 cases hd:vM oj i
 ·rfl
 ·obtain ⟨e,he,hb⟩:=Array.any_eq_true'.1 hd
  simp only [Bool.and_eq_true] at hb
  exact absurd (Nat.eq_of_beq_eq_true hb.2) (h e he hb.1)
theorem Fc {l:List Nat} {f:Nat->VC} (h:(yb l f).holds):∀i∈l,(f i).holds:=by
 induction l with
 | nil=>simp
 | cons i l ih=>
  cases l with
  | nil=>intro j hj;simp at hj;subst hj;exact h
  | cons j r=>
   intro k hk
   rcases List.mem_cons.1 hk with rfl | hk
   ·exact h.1
   ·exact ih h.2 k hk
theorem r6 (hok:fw P cx X) {O:ah} {ops:Array Oper} {W:List Nat} (hW:∀(j:Nat) (oj:Oper) (d:Nat),ops[j]?=some oj->oj.dst=some d->d∈W) (hreg:oP ops=true) {K:St->VC}
  (hQp:∀c a w,¬ Q (.panic c) a w):∀(n:Nat) (listed:Array Bool) {st:St} {loc:Nat->Loc} {w:World} {a:Act},nT ops listed->
  cw cx (ae O st loc w) st a->Good cx.eT X (ae O st loc w)->bZ O w->(gI cx ops (dE ops.toList) n listed st K).holds->
  (∀st' loc' a' w',(K st').holds->Good cx.eT X (ae O st' loc' w')->Tr (ae O st loc w) (ae O st' loc' w')->cw cx (ae O st' loc' w') st' a'->ir W st st'->Q .normal a' w')->
  wpS P ops (eK cx ops.toList) Q n listed a w (ae O st loc w).A:=by
 intro n
 induction n with
 | zero=>
  intro listed st loc w a _ hA g _ h hq
  simp only [gI] at h
  split at h
  ·rename_i hr;exact ⟨hr,hq st loc a w h g (Tr.refl _) hA fun _ _ _ _ h=>h⟩
  ·exact h.elim
 | succ n ih=>
  intro listed st loc w a cz hA g hO h hq
  simp only [gI] at h
  split at h
  ·rename_i hr
   exact ⟨fun _=>hq st loc a w h g (Tr.refl _) hA fun _ _ _ _ h=>h,by rw [hr];simp⟩
  ·rename_i r rs hr
   have one:∀i∈Region.ready .any ops listed,(match ops[i]? with | some o=>gR cx ops.toList st o fun st'=>gI cx ops (dE ops.toList) n (listed.setIfInBounds i true) st' K | none=>VC.ff).holds->
     wpOp P ops Q i (fun a' w'=>(eK cx ops.toList i=false->Below w.heap.size w w')/\∃A',ck w (ae O st loc w).A w' A'/\wpS P ops (eK cx ops.toList) Q n (listed.setIfInBounds i true) a' w' A') a w:=by
    intro i hi h
    split at h
    ·rename_i o ho
     have hs:=qk (Q:=Q) (P:=P) hok hA g hO hW (fun d hd=>hW i o d ho hd) h
     have hl:eK cx ops.toList i=Nat.beq (kindOf cx o) 3:=by
      unfold eK;rw [Array.getElem?_toList,ho]
     have next:∀a' w',cB cx X O (fun st'=>gI cx ops (dE ops.toList) n (listed.setIfInBounds i true) st' K) W st (ae O st loc w) a' w'->∃A',ck w (ae O st loc w).A w' A'/\wpS P ops (eK cx ops.toList) Q n (listed.setIfInBounds i true) a' w' A':=by
      rintro a' w' ⟨st',loc',k1,k2,k3,k4,k5⟩
      exact ⟨_,k3.cell,ih _ (oM cz hi) k4 k2 (hO.tr k3.size) k1 fun st2 loc2 a2 w2 m1 m2 m3 m4 m5=>hq st2 loc2 a2 w2 m1 m2 (k3.trans m3) m4 (k5.trans m5)⟩
     unfold wpOp
     simp only [ho]
     split
     ·rename_i hw
      rw [if_pos hw] at hs
      exact .inl (Oper.wp_mono (fun a' w' h'=>⟨fun e=>h'.1 (by rw [<-hl];exact e),next a' w' h'.2⟩) hs)
     ·rename_i hw
      rw [if_neg hw] at hs
      exact ⟨fun _=>Below.refl _ _,next _ _ hs⟩
    ·exact h.elim
   split at h
   ·rename_i i hf
    have hmem:i∈Region.ready .any ops listed:=by rw [hr];exact List.mem_of_find?_eq_some hf
    have hst:=List.find?_some hf
    split at h
    ·rename_i o ho
     have hol:ops.toList[i]?=some o:=by rw [Array.getElem?_toList];exact ho
     obtain ⟨hsel,hap⟩:=xX hreg
     have hfree:∀j oj,ops[j]?=some oj->j≠i->listed.getD j true=false->(∀e∈oj.after,Region.binds .any e=true->e.on≠i)->o.apart ops oj=true:=by
      intro j oj hj hji hun hno
      refine hap i j o oj ho hj hji (ur hno) (ur fun e he hb heq => ?_)
      obtain ⟨_,o',ho',hall⟩:=mem_ready.1 hmem
      rw [ho] at ho'
      cases ho'
      have:=hall e he hb
      rw [heq] at this
      rcases Nat.lt_or_ge j listed.size with h' | h'
      ·simp [h'] at hun this;rw [hun] at this;cases this
      ·simp [Array.getElem?_eq_none h'] at this
     have fin:∀{C:s9} (hCr:∀w A,C w A w A) (hCt:∀a A b B c D,C a A b B->C b B c D->C a A c D)
       (hCC:(∀w A w' A',ck w A w' A'->C w A w' A')\/((∀w A w' A',Below w.heap.size w w'->C w A w' A')/\∀j,listed.getD j true=false->j≠i->eK cx ops.toList j=true->lg ops i j))
       {v:Value},dG P ops C o v a w (ae O st loc w).A->cB cx X O (fun st'=>gI cx ops (dE ops.toList) n (listed.setIfInBounds i true) st' K) W st (ae O st loc w) (a.put o.dst v) w->wpS P ops (eK cx ops.toList) Q (n + 1) listed a w (ae O st loc w).A:=by
      intro C hCr hCt hCC v hy ⟨st',loc',k1,k2,k3,k4,k5⟩
      refine E7 hCr hCt ho (fun j o' cs b hj=>Region.noSelect_spec hsel j o' cs b hj) (fun c a w h=>(hQp _ _ _ h).elim) n listed a w _ cz hfree hCC hmem hy ?_
      exact Fb k3.cell (ih _ (oM cz hmem) k4 k2 (hO.tr k3.size) k1 fun st2 loc2 a2 w2 m1 m2 m3 m4 m5=>hq st2 loc2 a2 w2 m1 m2 (k3.trans m3) m4 (k5.trans m5))
     cases hd:oN cx ops st i with
     | true=>
      obtain ⟨t,x,u,y,hop,hg,hev⟩:=Dq ho hd
      have h':(qh cx st o fun sv st'=>uq cx st' o.dst sv fun st'=>gI cx ops (dE ops.toList) n (listed.setIfInBounds i true) st' K).holds:=by
       unfold gR rl at h;rw [hg] at h;exact h
      obtain ⟨v,sv,m1,m2,m3⟩:=I5 hok g hO hA.env hop hev h'
      have hw:Region.wanted o (yielded ops a.tmps)=true:=by unfold Region.wanted;rw [hg]
      refine fin (C:=ck) ck.refl (fun _ _ _ _ _ _=>ck.trans) (.inl fun _ _ _ _ h=>h) (v:=v) (.inl ⟨hw,fun w' A' hc=>m3 w' A' hc⟩) ?_
      exact (iR m1 hA (Tr.refl _) rfl m2 g (fun d hd=>hW i o d ho hd))
     | false=>
      have hkind:kindOf cx o=0\/(kindOf cx o=1/\∀j,j < ops.size->j≠i->listed.getD j true=false->eK cx ops.toList j=true->lg ops i j):=by
       rw [hd,Bool.or_false] at hst
       simp only [nU,hol] at hst
       split at hst
       ·rename_i hk;exact .inl hk
       ·rename_i hk
        refine .inr ⟨hk,fun j hj hji hun hl => ?_⟩
        rw [List.all_eq_true] at hst
        have:=hst j (by rw [List.mem_range];simpa using hj)
        simp only [Bool.or_eq_true,hun,hl,Bool.not_true,Bool.false_eq_true,or_false] at this
        rcases this with this | this
        ·exact absurd (Nat.eq_of_beq_eq_true this) hji
        ·exact E5 this
       ·cases hst
      let C:s9:=fun w _ w' _=>kindOf cx o=0\/Below w.heap.size w w'
      have hCr:∀w A,C w A w A:=fun w A => .inr (Below.refl _ _)
      have hCt:∀a A b B c D,C a A b B->C b B c D->C a A c D:=by
       intro a A b B c D h1 h2
       rcases h1 with h1 | h1
       ·exact .inl h1
       ·rcases h2 with h2 | h2
        ·exact .inl h2
        ·exact .inr (h1.trans (h2.mono h1.size))
      have hCC:(∀w A w' A',ck w A w' A'->C w A w' A')\/((∀w A w' A',Below w.heap.size w w'->C w A w' A')/\∀j,listed.getD j true=false->j≠i->eK cx ops.toList j=true->lg ops i j):=by
       rcases hkind with hk | ⟨hk,hanc⟩
       ·exact .inl fun _ _ _ _ _ => .inl hk
       ·refine .inr ⟨fun _ _ _ _ hb => .inr hb,fun j hun hji hl=>hanc j ?_ hji hun hl⟩
        rcases Nat.lt_or_ge j ops.size with hh | hh
        ·exact hh
        ·unfold eK at hl
         rw [Array.getElem?_toList,Array.getElem?_eq_none hh] at hl
         cases hl
      unfold gR at h
      obtain ⟨st1,hA1,g1,hs1,hag1,hcase⟩:=pK hA g hW h
      rcases hcase with ⟨hw,h'⟩ | ⟨hw,h'⟩
      ·obtain ⟨v,sv,st2,loc2,m1,m2,m3,m4,m5,m6⟩:=Fa hok g1 hO hA1.env (hkind.imp id (·.1)) h'
       refine fin hCr hCt hCC (v:=v) (.inl ⟨hw,fun w' _ hc=>m6 w' hc⟩) ?_
       exact (iR m1 hA1 m4 m2 m5 m3 (fun d hd=>hW i o d ho hd)).mono (by rw [hs1];exact Tr.refl _) hag1
      ·refine fin hCr hCt hCC (v:=undef) (.inr ⟨hw,rfl⟩) ?_
       exact (iR (loc:=loc) (w:=w) h' hA1 (Tr.refl _) rfl (show bH cx.eT _ (.gK []) undef from ⟨[],rfl, .nil⟩) g1 (fun d hd=>hW i o d ho hd)).mono (by rw [hs1];exact Tr.refl _) hag1
    ·exact h.elim
   ·have hall:=Fc h
    refine ⟨fun e=>(by rw [hr] at e;cases e),fun i hi=>one i hi ?_⟩
    exact hall i (by rw [<-hr];exact hi)
end
structure ql (ops:Array Oper) (m:Nat) (listed:Array Bool):Prop where
 size:listed.size=ops.size
 bits:∀k,m.testBit k=listed.getD k false
theorem ql.out {ops:Array Oper} {m:Nat} {listed:Array Bool} (h:ql ops m listed) {i:Nat} (hi:i < ops.size):listed.getD i true=m.testBit i:=by
 rw [h.bits];simp [h.size,hi]
theorem ql.set {ops:Array Oper} {m:Nat} {listed:Array Bool} (h:ql ops m listed) {i:Nat} (hi:i < ops.size):ql ops (m ||| (1 <<< i)) (listed.setIfInBounds i true):=by
 refine ⟨by simp [h.size],fun k => ?_⟩
 rw [Nat.testBit_or,h.bits,Nat.one_shiftLeft,Nat.testBit_two_pow]
 by_cases e:i=k
 ·subst e;simp [h.size,hi]
 ·simp [e,Array.getElem?_setIfInBounds]
theorem I6 (a b m:Nat):(Nat.beq ((a ||| b) &&& m) (a ||| b))=(Nat.beq (a &&& m) a && Nat.beq (b &&& m) b):=by
 rw [Bool.eq_iff_iff,Bool.and_eq_true,Nat.beq_eq,Nat.beq_eq,Nat.beq_eq]
 constructor
 ·intro h
  have hb:∀k,(a.testBit k || b.testBit k)=true->m.testBit k=true:=fun k hk=>by
   have:=congrArg (fun x=>x.testBit k) h
   simp only [Nat.testBit_and,Nat.testBit_or] at this
   rw [hk] at this;simpa using this
  constructor <;> apply Nat.eq_of_testBit_eq <;> intro k <;> rw [Nat.testBit_and]
  ·cases ha:a.testBit k with
   | false=>rfl
   | true=>rw [hb k (by rw [ha];rfl)];rfl
  ·cases ha:b.testBit k with
   | false=>rfl
   | true=>rw [hb k (by rw [ha];simp)];rfl
 ·rintro ⟨h1,h2⟩
  rw [Nat.and_or_distrib_right,h1,h2]
theorem J7 (k m:Nat):Nat.beq ((1 <<< k) &&& m) (1 <<< k)=m.testBit k:=by
 rw [Bool.eq_iff_iff,Nat.beq_eq,Nat.one_shiftLeft]
 constructor
 ·intro h
  have:=congrArg (fun x=>x.testBit k) h
  simpa [Nat.testBit_and,Nat.testBit_two_pow] using this
 ·intro h
  apply Nat.eq_of_testBit_eq
  intro j
  rw [Nat.testBit_and,Nat.testBit_two_pow]
  by_cases e:k=j
  ·subst e;simp [h]
  ·simp [e]
theorem Fe (o:Oper) (m:Nat):Nat.beq (ta o &&& m) (ta o)=o.after.toList.all fun e => !Region.binds .any e || m.testBit e.on:=by
 have key:∀(l:List Edge) (s:Nat),
   Nat.beq (l.foldl (fun s e=>match Region.binds .any e with | true=>s ||| (1 <<< e.on) | false=>s) s &&& m) (l.foldl (fun s e=>match Region.binds .any e with | true=>s ||| (1 <<< e.on) | false=>s) s) =
    (Nat.beq (s &&& m) s && l.all fun e => !Region.binds .any e || m.testBit e.on):=by
  intro l
  induction l with
  | nil=>intro s;simp
  | cons e l ih=>
   intro s
   rw [List.foldl_cons,ih,List.all_cons]
   cases Region.binds .any e with
   | true=>simp only [I6,J7,Bool.not_true,Bool.false_or,Bool.and_assoc]
   | false=>simp
 have:=key o.after.toList 0
 simpa [ta] using this
theorem wJ {m:Nat} {p:Nat->Bool}:∀(l:List Nat) (i:Nat),(∀k am,l[k]?=some am->E8 am m (i + k)=p (i + k))->iP l m i=(List.range' i l.length).filter p
 | [],_,_=>rfl
 | am :: r,i,h=>by
  have h0:E8 am m i=p i:=by simpa using h 0 am rfl
  have ih:=wJ (m:=m) (p:=p) r (i + 1) fun k am' hk=>by
   have:=h (k + 1) am' (by simpa using hk)
   rwa [show i + (k + 1)=i + 1 + k by omega] at this
  have e:iP (am :: r) m i=match E8 am m i with | true=>i :: iP r m (i + 1) | false=>iP r m (i + 1):=by rw [iP]
  rw [List.length_cons,List.range'_succ,List.filter_cons,<-ih,e,h0]
  cases p i <;> rfl
theorem yY {m i:Nat} {p:Nat->Bool}:∀(ls:List Bool) (Lm:List Nat) (j:Nat),ls.length=Lm.length->
  (∀k l a,ls[k]?=some l->Lm[k]?=some a->(!(l && (!(Nat.beq (j + k) i) && (!(m.testBit (j + k)) && !(a.testBit i)))))=p (j + k))->oO m i ls Lm j=(List.range' j ls.length).all p
 | [],[],_,_,_=>rfl
 | [],_ :: _,_,h,_=>by simp at h
 | _ :: _,[],_,h,_=>by simp at h
 | l :: ls,a :: Lm,j,hl,h=>by
  have h0:=h 0 l a rfl rfl
  rw [Nat.add_zero] at h0
  have ih:=yY (m:=m) (i:=i) (p:=p) ls Lm (j + 1) (by simpa using hl) fun k l' a' hk ha=>by
   have:=h (k + 1) l' a' (by simpa using hk) (by simpa using ha)
   rwa [show j + (k + 1)=j + 1 + k by omega] at this
  have e:oO m i (l :: ls) (a :: Lm) j=match l && (!(Nat.beq j i) && (!(m.testBit j) && !(a.testBit i))) with | true=>false | false=>oO m i ls Lm (j + 1):=by rw [oO]
  rw [List.length_cons,List.range'_succ,List.all_cons,<-ih,<-h0,e]
  cases (l && (!(Nat.beq j i) && (!(m.testBit j) && !(a.testBit i)))) <;> rfl
theorem r7:∀(r:List Oper) (ms:List Nat),(ku r ms).length=ms.length + r.length
 | [],ms=>by simp [ku]
 | o :: r,ms=>by rw [ku,r7 r];simp;omega
theorem Ff (l:List Oper):(dE l).length=l.length:=by unfold dE;rw [r7];simp
theorem yZ {ops:Array Oper} {m:Nat} {listed:Array Bool} (h:ql ops m listed):iP (ops.toList.map ta) m 0=Region.ready .any ops listed:=by
 unfold Region.ready
 rw [wJ (p:=fun i => !listed.getD i true && ((ops[i]?).map (·.after.all fun e => !Region.binds .any e || listed.getD e.on false)).getD false),List.length_map,List.range_eq_range']
 ·rfl
 ·intro k am hk
  rw [Nat.zero_add]
  rw [List.getElem?_map,Array.getElem?_toList] at hk
  cases ho:ops[k]? with
  | none=>rw [ho] at hk;cases hk
  | some o=>
   rw [ho] at hk
   simp only [Option.map_some,Option.some.injEq] at hk
   have hlt:k < ops.size:=(Array.getElem?_eq_some_iff.1 ho).1
   unfold E8
   rw [<-hk,Fe,h.out hlt]
   simp only [Option.map_some,Option.getD_some]
   congr 1
   rw [<-Array.all_toList]
   congr 1
   funext e
   rw [h.bits]
theorem Fg {cx:Cx} {ops:Array Oper} {m:Nat} {listed:Array Bool} (h:ql ops m listed) (i:Nat) :
  rm (ops.toList.map (kindOf cx)) (ops.toList.map fun o=>Nat.beq (kindOf cx o) 3) (dE ops.toList) m i=nU cx ops.toList (dE ops.toList) listed i:=by
 unfold rm nU
 rw [List.getD_eq_getElem?_getD,List.getElem?_map]
 cases ho:ops.toList[i]? with
 | none=>rfl
 | some o=>
  simp only [Option.map_some,Option.getD_some]
  have hfree:oO m i (ops.toList.map fun o=>Nat.beq (kindOf cx o) 3) (dE ops.toList) 0=(List.range ops.toList.length).all fun j=>Nat.beq j i || listed.getD j true || !(eK cx ops.toList j) || ((dE ops.toList).getD j 0).testBit i:=by
   rw [yY (p:=fun j=>Nat.beq j i || listed.getD j true || !(eK cx ops.toList j) || ((dE ops.toList).getD j 0).testBit i),List.length_map,List.range_eq_range']
   ·rw [List.length_map,Ff]
   ·intro k l a hk ha
    rw [Nat.zero_add]
    rw [List.getElem?_map] at hk
    cases hoo:ops.toList[k]? with
    | none=>rw [hoo] at hk;cases hk
    | some o'=>
     rw [hoo] at hk
     simp only [Option.map_some,Option.some.injEq] at hk
     have hlt:k < ops.size:=by rw [Array.getElem?_toList] at hoo;exact (Array.getElem?_eq_some_iff.1 hoo).1
     have hm:(dE ops.toList).getD k 0=a:=by rw [List.getD_eq_getElem?_getD,ha];rfl
     have hl:eK cx ops.toList k=l:=by unfold eK;rw [hoo];exact hk
     rw [hm,hl,h.out hlt]
     cases l <;> cases Nat.beq k i <;> cases m.testBit k <;> cases a.testBit i <;> rfl
  split
  ·rfl
  ·exact hfree
  ·rfl
theorem I7 {cx:Cx} {ops:Array Oper} {K:St->VC}:∀(n m:Nat) (listed:Array Bool) (st:St),ql ops m listed->
  anyM cx ops (ops.toList.map ta) (ops.toList.map (kindOf cx)) (ops.toList.map fun o=>Nat.beq (kindOf cx o) 3) (dE ops.toList) n m st K=gI cx ops (dE ops.toList) n listed st K:=by
 intro n
 induction n with
 | zero=>intro m listed st h;unfold anyM gI;rw [yZ h]
 | succ n ih=>
  intro m listed st h
  unfold anyM gI
  rw [yZ h]
  have hst:(fun i=>rm (ops.toList.map (kindOf cx)) (ops.toList.map fun o=>Nat.beq (kindOf cx o) 3) (dE ops.toList) m i || oN cx ops st i)=fun i=>nU cx ops.toList (dE ops.toList) listed i || oN cx ops st i:=funext fun i=>by rw [Fg h]
  rw [hst]
  have hone:∀i,(match ops[i]? with
    | some o=>gR cx ops.toList st o fun st'=>anyM cx ops (ops.toList.map ta) (ops.toList.map (kindOf cx)) (ops.toList.map fun o=>Nat.beq (kindOf cx o) 3) (dE ops.toList) n (m ||| (1 <<< i)) st' K
    | none=>VC.ff)=(match ops[i]? with
    | some o=>gR cx ops.toList st o fun st'=>gI cx ops (dE ops.toList) n (listed.setIfInBounds i true) st' K
    | none=>VC.ff):=by
   intro i
   cases ho:ops[i]? with
   | none=>rfl
   | some o=>
    have hlt:i < ops.size:=(Array.getElem?_eq_some_iff.1 ho).1
    simp only
    congr 1
    funext st'
    exact ih _ _ st' (h.set hlt)
  split
  ·rfl
  ·split
   ·rename_i i hf
    exact hone i
   ·congr 1
    funext i
    exact hone i
theorem Cs {cx:Cx} {ops:Array Oper} {st:St} {K:St->VC}:J6 cx ops st K=gI cx ops (dE ops.toList) ops.size (Array.replicate ops.size false) st K:=
 I7 _ _ _ _ ⟨by simp,fun k=>by simp [Array.getElem?_replicate];split <;> rfl⟩
end Go.Vg

namespace Go.Vg
open Go.RowKit
def jN (r:Nat->Nat):C->C
 | .app t xs n => .app t xs (r n)
 | .ax n => .ax (r n)
 | .jB n t lo len => .jB (r n) t lo len
 | .jl n => .jl (r n)
 | .cV n => .cV (r n)
 | .xd n p => .xd (r n) p
 | .ref n o => .ref (r n) o
 | .me n => .me (r n)
 | .fN n t i o => .fN (r n) t i o
 | .fn f caps => .fn f (caps.map r)
 | c=>c
def oQ (r:Nat->Nat):List C->List C
 | []=>[]
 | c :: cs=>jN r c :: oQ r cs
def nV (r:Nat->Nat):aZ->aZ
 | .one c => .one (jN r c)
 | .agg cs => .agg (oQ r cs)
def nW (r:Nat->Nat):List aZ->List aZ
 | []=>[]
 | c :: cs=>nV r c :: nW r cs
def rn (r:Nat->Nat):SV->SV
 | .s x => .s (nV r x)
 | .gK xs => .gK (nW r xs)
def ee (r:Nat->Nat):OC->OC
 | .cells T cs => .cells T (oQ r cs)
 | .iter cs seen cl => .iter (oQ r cs) seen cl
 | oc=>oc
def nX (r:Nat->Nat):List (Nat × SV)->List (Nat × SV)
 | []=>[]
 | (t,v) :: l=>(t,rn r v) :: nX r l
def kv (r:Nat->Nat):List (Nat × OC)->List (Nat × OC)
 | []=>[]
 | (n,oc) :: l=>(r n,ee r oc) :: kv r l
def e8 (r:Nat->Nat) (st:St):St:={env:=nX r st.env,ag:=kv r st.ag,next:=st.next}
structure gD (base next:Nat) (r q:Nat->Nat):Prop where
 low:∀n,n < base->r n=n
 lt:∀n,n < next->r n < next
 back:∀n,n < next->q (r n)=n
 Lk:∀n,n < next->q n < next
 Dr:∀n,n < next->r (q n)=n
section
variable {X:Ext} {cx:Cx} {base next:Nat} {r q:Nat->Nat}
theorem gD.Hp (h:gD base next r q) (hb:base<=next) {n:Nat} (hn:n < base):q n=n:=by
 have:=h.back n (by omega);rw [h.low n hn] at this;exact this
theorem r8 (l:List (Nat × SV)) (t:Nat):look (nX r l) t=(look l t).map (rn r):=by
 induction l with
 | nil=>rfl
 | cons p l ih=>
  obtain ⟨m,v⟩:=p
  simp only [nX,aU]
  split
  ·rfl
  ·exact ih
theorem y5 (h:gD base next r q):∀{l:List (Nat × OC)},(∀p∈l,p.1 < next)->∀m,m < next->look (kv r l) m=(look l (q m)).map (ee r):=by
 intro l
 induction l with
 | nil=>intro _ m _;rfl
 | cons p l ih=>
  obtain ⟨n,oc⟩:=p
  intro hk m hm
  have hn:n < next:=hk (n,oc) (by simp)
  simp only [kv,aU]
  by_cases e:r n=m
  ·rw [if_pos e,if_pos (by rw [<-e,h.back n hn])];rfl
  ·rw [if_neg e,if_neg (fun e2=>e (by rw [e2,h.Dr m hm]))]
   exact ih (fun p hp=>hk p (by simp [hp])) m hm
theorem tc (h:gD base next r q):∀{l:List (Nat × OC)},(∀p∈l,p.1 < next)->∀m,¬ m < next->look (kv r l) m=none:=by
 intro l
 induction l with
 | nil=>intro _ m _;rfl
 | cons p l ih=>
  obtain ⟨n,oc⟩:=p
  intro hk m hm
  simp only [kv,aU]
  rw [if_neg (fun e=>hm (by rw [<-e];exact h.lt n (hk (n,oc) (by simp))))]
  exact ih (fun p hp=>hk p (by simp [hp])) m hm
theorem tf {α:Type} {l:List (Nat × α)} {p:Nat × α} (hp:p∈l):∃x,look l p.1=some x:=by
 induction l with
 | nil=>cases hp
 | cons p' l ih=>
  obtain ⟨m,y⟩:=p'
  rw [aU]
  by_cases e:m=p.1
  ·exact ⟨y,by rw [if_pos e]⟩
  ·rw [if_neg e]
   rcases List.mem_cons.1 hp with rfl | hp
   ·exact absurd rfl e
   ·exact ih hp
theorem y7 (oc:OC):(ee r oc).lo=oc.lo:=by cases oc <;> rfl
section
variable {O:ah} {st:St} {loc:Nat->Loc} {w:World}
theorem jO (h:gD base st.next r q) (g:Good cx.eT X (ae O st loc w)) {m:Nat} {oc':OC}:(ae O (e8 r st) (fun m=>loc (q m)) w).ob m=some oc' ↔ m < st.next/\∃oc,look st.ag (q m)=some oc/\oc'=ee r oc:=by
 have hk:∀p∈st.ag,p.1 < st.next:=fun p hp=>by
  obtain ⟨x,hx⟩:=tf hp
  exact (g.obj p.1 x hx).1
 show look (kv r st.ag) m=some oc' ↔ _
 by_cases hm:m < st.next
 ·rw [y5 h hk m hm]
  cases look st.ag (q m) with
  | none=>simp
  | some oc=>simp [hm,eq_comm]
 ·rw [tc h hk m hm];simp [hm]
theorem Ds (h:gD base st.next r q) (g:Good cx.eT X (ae O st loc w)):(ae O (e8 r st) (fun m=>loc (q m)) w).A=(ae O st loc w).A:=by
 funext b off
 apply propext
 constructor
 ·rintro (k | ⟨m,oc',k1,k2,k3⟩)
  ·exact .inl k
  ·obtain ⟨hm,oc,h1,rfl⟩:=(jO h g).1 k1
   exact .inr ⟨q m,oc,h1,k2,by rwa [y7] at k3⟩
 ·rintro (k | ⟨n,oc,k1,k2,k3⟩)
  ·exact .inl k
  ·have hn:=(g.obj n oc k1).1
   refine .inr ⟨r n,ee r oc,(jO h g).2 ⟨h.lt n hn,oc,by rw [h.back n hn];exact k1,rfl⟩,?_,by rw [y7];exact k3⟩
   show b∈(loc (q (r n))).bs
   rw [h.back n hn];exact k2
theorem y8 (h:gD base st.next r q) (g:Good cx.eT X (ae O st loc w)) {b:Nat} (hb:(ae O (e8 r st) (fun m=>loc (q m)) w).owns b):(ae O st loc w).owns b:=by
 obtain ⟨m,oc',k1,k2⟩:=hb
 obtain ⟨hm,oc,h1,rfl⟩:=(jO h g).1 k1
 exact ⟨q m,oc,h1,k2⟩
theorem Fh (h:gD base st.next r q) (g:Good cx.eT X (ae O st loc w)) {c:C} {v:Value} (hc:CR cx.eT (ae O st loc w) c v):CR cx.eT (ae O (e8 r st) (fun m=>loc (q m)) w) (jN r c) v:=by
 have hA:=Ds (r:=r) (q:=q) h g
 have obn:∀{n:Nat} {oc:OC},n < st.next->(ae O (e8 r st) (fun m=>loc (q m)) w).ob (r n)=some oc->∃oc0,look st.ag n=some oc0/\oc=ee r oc0:=by
  intro n oc hn ho
  obtain ⟨_,oc0,h1,h2⟩:=(jO h g).1 ho
  rw [h.back n hn] at h1
  exact ⟨oc0,h1,h2⟩
 cases c with
 | lit b=>exact hc
 | d t x=>show VR cx.eT t x _ w v;rw [hA];exact hc
 | app t xs n=>
  obtain ⟨h1,h2,h3⟩:=hc
  refine ⟨by rw [hA];exact h1,h.lt n h2,fun ys hy => ?_⟩
  obtain ⟨oc0,k1,k2⟩:=obn h2 hy
  cases oc0 <;> simp [ee] at k2
  obtain ⟨rfl,rfl⟩:=k2
  obtain ⟨m1,m2⟩:=h3 _ k1
  exact ⟨m1,fun e=>by show v=(loc (q (r n))).v;rw [h.back n h2];exact m2 e⟩
 | dY=>exact hc
 | c8=>exact hc
 | emp=>exact hc
 | ax n=>
  refine ⟨h.lt n hc.1,fun t xs e => ?_⟩
  obtain ⟨oc0,k1,k2⟩:=obn hc.1 e
  cases oc0 <;> simp [ee] at k2
  obtain ⟨rfl,rfl⟩:=k2
  show v=(loc (q (r n))).v
  rw [h.back n hc.1];exact hc.2 _ _ k1
 | jB n t lo len=>
  refine ⟨h.lt n hc.1,fun xs e => ?_⟩
  obtain ⟨oc0,k1,k2⟩:=obn hc.1 e
  cases oc0 <;> simp [ee] at k2
  obtain ⟨rfl,k3⟩:=k2
  rcases hc.2 _ k1 with h5 | ⟨b,c,h5,h6⟩
  ·exact .inl h5
  ·exact .inr ⟨b,c,by show (loc (q (r n))).bs = [b];rw [h.back n hc.1];exact h5,h6⟩
 | jl n=>
  refine ⟨h.lt n hc.1,fun t xs e => ?_⟩
  obtain ⟨oc0,k1,k2⟩:=obn hc.1 e
  cases oc0 <;> simp [ee] at k2
  obtain ⟨rfl,rfl⟩:=k2
  show v=(loc (q (r n))).v
  rw [h.back n hc.1];exact hc.2 _ _ k1
 | cV n=>
  refine ⟨h.lt n hc.1,fun oc e hx => ?_⟩
  obtain ⟨oc0,k1,k2⟩:=obn hc.1 e
  have hx':oc0.JT=true:=by subst k2;cases oc0 <;> first | rfl | cases hx
  show v=(loc (q (r n))).v
  rw [h.back n hc.1];exact hc.2 _ k1 hx'
 | xd n p=>
  refine ⟨h.lt n hc.1,fun t x e => ?_⟩
  obtain ⟨oc0,k1,k2⟩:=obn hc.1 e
  cases oc0 <;> simp [ee] at k2
  obtain ⟨rfl,rfl,k2⟩:=k2
  show EN p (loc (q (r n))).v v
  rw [h.back n hc.1];exact hc.2 _ _ k1
 | ref n off=>
  refine ⟨h.lt n hc.1,fun T cs e => ?_⟩
  obtain ⟨oc0,k1,k2⟩:=obn hc.1 e
  cases oc0 <;> simp [ee] at k2
  show ∃b,(loc (q (r n))).v=_/\_
  rw [h.back n hc.1];exact hc.2 _ _ k1
 | me n=>
  refine ⟨h.lt n hc.1,?_⟩
  rcases hc.2 with hn | hn
  ·exact .inl hn
  ·refine .inr fun T cs e => ?_
   obtain ⟨oc0,k1,k2⟩:=obn hc.1 e
   cases oc0 <;> simp [ee] at k2
   show v=(loc (q (r n))).v
   rw [h.back n hc.1];exact hn _ _ k1
 | fN n t i off=>
  refine ⟨h.lt n hc.1,fun ⟨xs,e⟩ => ?_⟩
  show ∃b,(loc (q (r n))).bs=_/\_
  rw [h.back n hc.1]
  rcases e with e | e
  ·obtain ⟨oc0,k1,k2⟩:=obn hc.1 e
   cases oc0 <;> simp [ee] at k2
   obtain ⟨rfl,rfl⟩:=k2
   exact hc.2 ⟨_, .inl k1⟩
  ·obtain ⟨oc0,k1,k2⟩:=obn hc.1 e
   cases oc0 <;> simp [ee] at k2
   obtain ⟨rfl,rfl⟩:=k2
   exact hc.2 ⟨_, .inr k1⟩
 | jm t x=>
  obtain ⟨b,o,us,rfl,h1,h2⟩:=hc
  exact ⟨b,o,us,rfl,by rw [hA];exact h1,by rw [hA];exact h2⟩
 | fn f caps=>
  obtain ⟨rfl,h2⟩:=hc
  refine ⟨?_,fun m hm => ?_⟩
  ·congr 2
   rw [List.map_map]
   exact List.map_congr_left fun n hn=>by show _=(loc (q (r n))).v;rw [h.back n (h2 n hn).1];rfl
  ·obtain ⟨n,hn,rfl⟩:=List.mem_map.1 hm
   refine ⟨h.lt n (h2 n hn).1,fun t ys e => ?_⟩
   obtain ⟨oc0,k1,k2⟩:=obn (h2 n hn).1 e
   cases oc0 <;> simp [ee] at k2
   obtain ⟨rfl,rfl⟩:=k2
   exact (h2 n hn).2 _ _ k1
 | any=>trivial
theorem rp (h:gD base st.next r q) (g:Good cx.eT X (ae O st loc w)):∀{cs:List C} {vs:List Value},bR cx.eT (ae O st loc w) cs vs->bR cx.eT (ae O (e8 r st) (fun m=>loc (q m)) w) (oQ r cs) vs
 | _,_, .nil => .nil
 | _,_, .cons h1 h2 h3 => .cons (Fh h g h1) h2 (rp h g h3)
theorem y9 (h:gD base st.next r q) (g:Good cx.eT X (ae O st loc w)) {x:aZ} {v:Value} (hx:dr cx.eT (ae O st loc w) x v):dr cx.eT (ae O (e8 r st) (fun m=>loc (q m)) w) (nV r x) v:=by
 cases x with
 | one c=>exact Fh h g hx
 | agg cs=>obtain ⟨vs,rfl,hv⟩:=hx;exact ⟨vs,rfl,rp h g hv⟩
theorem wK (h:gD base st.next r q) (g:Good cx.eT X (ae O st loc w)):∀{cs:List aZ} {vs:List Value},bc cx.eT (ae O st loc w) cs vs->bc cx.eT (ae O (e8 r st) (fun m=>loc (q m)) w) (nW r cs) vs
 | _,_, .nil => .nil
 | _,_, .cons h1 h3 => .cons (y9 h g h1) (wK h g h3)
theorem I8 (h:gD base st.next r q) (g:Good cx.eT X (ae O st loc w)) {x:SV} {v:Value} (hx:bH cx.eT (ae O st loc w) x v):bH cx.eT (ae O (e8 r st) (fun m=>loc (q m)) w) (rn r x) v:=by
 cases x with
 | s x=>exact y9 h g hx
 | gK xs=>obtain ⟨vs,rfl,hv⟩:=hx;exact ⟨vs,rfl,wK h g hv⟩
theorem qm (h:gD base st.next r q) (g:Good cx.eT X (ae O st loc w)) {t:Ty} {xs:List (D t)} {vs:Array Value} (he:eX cx.eT (ae O st loc w) t xs vs):eX cx.eT (ae O (e8 r st) (fun m=>loc (q m)) w) t xs vs:=by
 intro i y hy
 obtain ⟨us,h1,h2⟩:=he i y hy
 exact ⟨us,by rw [Ds h g];exact h1,h2⟩
theorem J8 (h:gD base st.next r q) (g:Good cx.eT X (ae O st loc w)) {l:Loc} {oc:OC} (ho:OR cx.eT X (ae O st loc w) l oc):OR cx.eT X (ae O (e8 r st) (fun m=>loc (q m)) w) l (ee r oc):=by
 cases oc with
 | cells T cs=>obtain ⟨b,vs,h1,h2,h3,h4⟩:=ho;exact ⟨b,vs,h1,h2,h3,rp h g h4⟩
 | ax t xs=>
  rcases ho with ho | ⟨b,vs,T,cap,h1,h2,h3,h4,h5,h6,h7⟩
  ·exact .inl ho
  ·exact .inr ⟨b,vs,T,cap,h1,h2,h3,h4,h5,h6,qm h g h7⟩
 | arr t xs=>obtain ⟨b,vs,T,h1,h2,h3,h4,h5⟩:=ho;exact ⟨b,vs,T,h1,h2,h3,h4,qm h g h5⟩
 | tok t xs=>
  rcases ho with ho | ⟨b,vs,T,cap,h1,h2,h3,h4,h5,h6,h7⟩
  ·exact .inl ho
  ·exact .inr ⟨b,vs,T,cap,h1,h2,h3,h4,h5,h6,qm h g h7⟩
 | ext k t x=>exact ho
 | iter cs seen cl=>obtain ⟨b,m,c,sn,h1,h2,h3,h4,h5,h6⟩:=ho;exact ⟨b,m,c,sn,h1,h2,h3,rp h g h4,h5,h6⟩
theorem Hq (h:gD base st.next r q) (g:Good cx.eT X (ae O st loc w)):Good cx.eT X (ae O (e8 r st) (fun m=>loc (q m)) w):=by
 refine ⟨fun n oc' ho => ?_,fun n m oc oc' b h1 h2 h3 h4 => ?_,fun n oc' b off ho hb => ?_,g.eE.sub rfl fun b hb=>y8 h g hb⟩
 ·obtain ⟨hn,oc,k1,rfl⟩:=(jO h g).1 ho
  exact ⟨hn,J8 h g (g.obj _ _ k1).2⟩
 ·obtain ⟨hn,oc1,k1,rfl⟩:=(jO h g).1 h1
  obtain ⟨hm,oc2,k2,rfl⟩:=(jO h g).1 h2
  have:=g.apart (q n) (q m) oc1 oc2 b k1 k2 h3 h4
  rw [<-h.Dr n hn,<-h.Dr m hm,this]
 ·obtain ⟨hn,oc,k1,rfl⟩:=(jO h g).1 ho
  exact g.out (q n) oc b off k1 hb
theorem Hr {l l':Loc} {a b:OC} (h:aw l l' a b):aw l l' a (ee r b):=by
 cases a <;> cases b <;> first | exact h | exact h.elim
theorem J9 (h:gD base st.next r q) (g:Good cx.eT X (ae O st loc w)) {S:aH} (hS:S.next=base) (hb:base<=st.next) (t:Tr S (ae O st loc w)):Tr S (ae O (e8 r st) (fun m=>loc (q m)) w) where
 O:=t.O
 next:=t.next
 os:=t.os
 output:=t.output
 size:=t.size
 own b hb':=t.own b (y8 h g hb')
 cell b o v ha hc:=by
  obtain ⟨h1,h2⟩:=t.cell b o v ha hc
  exact ⟨h1,by rw [Ds h g];exact h2⟩
 block:=t.block
 loc n hn hf:=by
  show (loc (q n)).v=_/\(_->loc (q n)=_)
  rw [h.Hp hb (by omega)]
  exact t.loc n hn hf
 kind n oc' hn ho:=by
  obtain ⟨_,oc1,k1,rfl⟩:=(jO h g).1 ho
  rw [h.Hp hb (by omega)] at k1
  obtain ⟨oc,k2,k3⟩:=t.kind n oc1 hn k1
  refine ⟨oc,k2,?_⟩
  show aw (S.loc n) (loc (q n)) oc (ee r oc1)
  rw [h.Hp hb (by omega)]
  exact Hr k3
theorem zA {S:aH} (hS:S.next=base) (hl:∀n,n < base->r n=n) {c:C} {v:Value} (hc:CR cx.eT S c v):jN r c=c:=by
 subst hS
 cases c with
 | app t xs n=>simp only [jN];rw [hl n hc.2.1]
 | ax n=>simp only [jN];rw [hl n hc.1]
 | jB n t lo len=>simp only [jN];rw [hl n hc.1]
 | jl n=>simp only [jN];rw [hl n hc.1]
 | cV n=>simp only [jN];rw [hl n hc.1]
 | xd n p=>simp only [jN];rw [hl n hc.1]
 | ref n off=>simp only [jN];rw [hl n hc.1]
 | me n=>simp only [jN];rw [hl n hc.1]
 | fN n t i off=>simp only [jN];rw [hl n hc.1]
 | fn f caps=>
  simp only [jN]
  congr 1
  have:caps.map r=caps.map id:=List.map_congr_left fun n hn=>hl n (hc.2 n hn).1
  simpa using this
 | _=>rfl
theorem wL {S:aH} (hS:S.next=base) (hl:∀n,n < base->r n=n):∀{cs:List C} {vs:List Value},bR cx.eT S cs vs->oQ r cs=cs
 | _,_, .nil=>rfl
 | _,_, .cons h1 _ h3=>by simp only [oQ];rw [zA hS hl h1,wL hS hl h3]
theorem uu {S:aH} (hS:S.next=base) (hl:∀n,n < base->r n=n) {x:aZ} {v:Value} (hc:dr cx.eT S x v):nV r x=x:=by
 cases x with
 | one c=>simp only [nV];rw [zA hS hl hc]
 | agg cs=>obtain ⟨vs,_,hv⟩:=hc;simp only [nV];rw [wL hS hl hv]
theorem r9 {S:aH} (hS:S.next=base) (hl:∀n,n < base->r n=n):∀{cs:List aZ} {vs:List Value},bc cx.eT S cs vs->nW r cs=cs
 | _,_, .nil=>rfl
 | _,_, .cons h1 h3=>by simp only [nW];rw [uu hS hl h1,r9 hS hl h3]
theorem Fi {S:aH} (hS:S.next=base) (hl:∀n,n < base->r n=n) {x:SV} {v:Value} (hc:bH cx.eT S x v):rn r x=x:=by
 cases x with
 | s x=>simp only [rn];rw [uu hS hl hc]
 | gK xs=>obtain ⟨vs,_,hv⟩:=hc;simp only [rn];rw [r9 hS hl hv]
end
theorem cB.K2 {O:ah} {K:St->VC} {W:List Nat} {st:St} {loc:Nat->Loc} {w:World} {a a':Act} {w':World} {f:St->St} (hA:cw cx (ae O st loc w) st a)
  (hf:∀st',f st'=st'\/∃r q,gD st.next st'.next r q/\f st'=e8 r st') (h:cB cx X O (fun st'=>K (f st')) W st (ae O st loc w) a' w'):cB cx X O K W st (ae O st loc w) a' w':=by
 obtain ⟨st',loc',k1,k2,k3,k4,k5⟩:=h
 rcases hf st' with e | ⟨r,q,ht,e⟩
 ·exact ⟨st',loc',by rw [<-e];exact k1,k2,k3,k4,k5⟩
 ·refine ⟨e8 r st',fun m=>loc' (q m),by rw [<-e];exact k1,Hq ht k2,J9 ht k2 rfl k3.next k3,⟨k4.size,k4.defers,?_⟩,?_⟩
  ·intro t sv hl
   have hl:look (nX r st'.env) t=some sv:=hl
   rw [r8] at hl
   obtain ⟨sv0,h0,rfl⟩:=Option.map_eq_some_iff.1 hl
   exact I8 ht k2 (k4.env t sv0 h0)
  ·intro hm t htW sv hl
   have hl:look (nX r st'.env) t=some sv:=hl
   rw [r8] at hl
   obtain ⟨sv0,h0,rfl⟩:=Option.map_eq_some_iff.1 hl
   have h1:=k5 hm t htW sv0 h0
   rw [Fi (cx:=cx) (S:=ae O st loc w) rfl ht.low (hA.env t sv0 h1)]
   exact h1
end
def Ct:C->List Nat
 | .app _ _ n | .ax n | .jl n | .cV n | .xd n _ | .ref n _ | .me n | .fN n _ _ _ | .jB n _ _ _=>[n]
 | .fn _ caps=>caps
 | _=>[]
def vN:List C->List Nat
 | []=>[]
 | c :: cs=>Ct c++vN cs
def Ka (ag:List (Nat × OC)):C->List Nat
 | .ref n _=>n :: (match look ag n with
  | some (.cells _ cs)=>vN cs
  | _=>[])
 | c=>Ct c
def I9 (ag:List (Nat × OC)):SV->List Nat
 | .s (.one c)=>Ka ag c
 | .s (.agg cs)=>vN cs
 | .gK _=>[]
def Cu (st:St):List Nat->List Nat
 | []=>[]
 | d :: ds=>(match look st.env d with
  | some sv=>I9 st.ag sv
  | none=>[])++Cu st ds
def IA (n:Nat):List Nat->Bool
 | []=>false
 | m :: l=>match Nat.beq m n with
  | true=>true
  | false=>IA n l
def yc (base next:Nat):List Nat->List Nat->List Nat
 | acc,[]=>acc
 | acc,n :: l=>match Nat.blt n base || !(Nat.blt n next) || IA n acc with
  | true=>yc base next acc l
  | false=>yc base next (acc++[n]) l
def Kb (base:Nat):Nat->List Nat
 | 0=>[]
 | k + 1=>Kb base k++[base + k]
def Kc (n:Nat):List Nat->Nat->Nat
 | [],_=>n
 | m :: l,i=>match Nat.beq m n with
  | true=>i
  | false=>Kc n l (i + 1)
def K3:List Nat->Nat->Nat->Nat
 | [],_,d=>d
 | m :: _,0,_=>m
 | _ :: l,i + 1,d=>K3 l i d
def mS (base:Nat) (l:List Nat) (n:Nat):Nat:=match Nat.blt n base with
 | true=>n
 | false=>Kc n l base
def oR (base:Nat) (l:List Nat) (n:Nat):Nat:=match Nat.blt n base with
 | true=>n
 | false=>K3 l (n - base) n
def yd (base:Nat) (l:List Nat):Nat->Nat->Bool
 | _,0=>true
 | next,k + 1=>Nat.blt (mS base l k) next && Nat.beq (oR base l (mS base l k)) k && Nat.blt (oR base l k) next && Nat.beq (mS base l (oR base l k)) k && yd base l next k
def canon (base:Nat) (ds:List Nat) (st:St):St:=
 match Nat.blt (base + 1) st.next with
 | false=>st
 | true=>
  let l:=yc base st.next (yc base st.next [] (Cu st ds)) (Kb base (st.next - base))
  match yd base l st.next st.next with
  | true=>e8 (mS base l) st
  | false=>st
theorem mT {base:Nat} {l:List Nat} {next:Nat}:∀k,yd base l next k=true->∀n,n < k->mS base l n < next/\oR base l (mS base l n)=n/\oR base l n < next/\mS base l (oR base l n)=n:=by
 intro k
 induction k with
 | zero=>intro _ n hn;omega
 | succ k ih=>
  intro h n hn
  simp only [yd,Bool.and_eq_true] at h
  obtain ⟨⟨⟨⟨h1,h2⟩,h3⟩,h4⟩,h5⟩:=h
  rcases Nat.lt_or_ge n k with hk | hk
  ·exact ih h5 n hk
  ·obtain rfl:n=k:=by omega
   exact ⟨gk h1,Nat.eq_of_beq_eq_true h2,gk h3,Nat.eq_of_beq_eq_true h4⟩
theorem uw (base:Nat) (ds:List Nat) (st:St):canon base ds st=st\/∃r q,gD base st.next r q/\canon base ds st=e8 r st:=by
 unfold canon
 split
 ·exact .inl rfl
 ·simp only
  split
  ·rename_i h
   refine .inr ⟨_,oR base _,⟨fun n hn => ?_,fun n hn=>(mT _ h n hn).1,fun n hn=>(mT _ h n hn).2.1,fun n hn=>(mT _ h n hn).2.2.1,fun n hn=>(mT _ h n hn).2.2.2⟩,rfl⟩
   unfold mS
   have:Nat.blt n base=true:=Nat.ble_eq_true_of_le hn
   rw [this]
  ·exact .inl rfl
end Go.Vg

namespace Go.Vg
open Go.RowKit
theorem VR.Dt {eT:TypeId} {t:Ty} {x:D t} {A A':ah} {w:World} {v:Value} (h:VR eT t x A w v) (hA:∀b o,¬ A b o->¬ A' b o):VR eT t x A' w v:=
 VR.frame h fun b o _ ha hc=>⟨hc,hA b o ha⟩
inductive Cl where
 | d (t:Ty)
 | obj (k:Nat)
 | c8
inductive Ob where
 | box (T:TypeId) (cs:List Cl)
 | row (keep:Bool) (t:Ty)
 | tok (t:Ty)
 | ext (k:Nat) (t:Ty)
@[reducible] def CD:List Cl->Type
 | []=>Unit
 | .d t :: r=>D t × CD r
 | .obj _ :: r=>CD r
 | .c8 :: r=>CD r
@[reducible] def OD:Ob->Type
 | .box _ cs=>CD cs
 | .row _ t=>List (D t)
 | .tok t=>List (D t)
 | .ext _ t=>D t
@[reducible] def PD:List Ob->Type
 | []=>Unit
 | o :: r=>OD o × PD r
def Kd:(o:Ob)->OD o->Nat->C
 | .box _ _,_,n => .ref n 0
 | .row _ _,_,n => .ax n
 | .tok t,x,n => .app t x n
 | .ext 0 _,_,n => .xd n .top
 | .ext (_ + 1) _,_,n => .cV n
def cM:(ak:List Ob)->PD ak->List Nat->Nat->C
 | o :: _,x,n :: _,0=>Kd o x.1 n
 | _ :: r,x,_ :: ns,k + 1=>cM r x.2 ns k
 | _,_,_,_ => .any
def zB (f:Nat->C):(cs:List Cl)->CD cs->List C
 | [],_=>[]
 | .d t :: r,x => .d t x.1 :: zB f r x.2
 | .obj k :: r,x=>f k :: zB f r x
 | .c8 :: r,x => .c8 :: zB f r x
def qn (f:Nat->C):(cs:List Cl)->CD cs->List aZ
 | [],_=>[]
 | .d t :: r,x => .one (.d t x.1) :: qn f r x.2
 | .obj k :: r,x => .one (f k) :: qn f r x
 | .c8 :: r,x => .one .c8 :: qn f r x
def kx (f:Nat->C):(o:Ob)->OD o->OC
 | .box T cs,x => .cells T (zB f cs x)
 | .row _ t,x => .ax t x
 | .tok t,x => .tok t x
 | .ext k t,x => .ext k t x
def fq (f:Nat->C):(os:List Ob)->PD os->List Nat->List (Nat × OC)
 | o :: r,x,n :: ns=>(n,kx f o x.1) :: fq f r x.2 ns
 | _,_,_=>[]
def IB:C->Option Nat
 | .ref n 0=>some n
 | .ax n=>some n
 | .app _ _ n=>some n
 | .cV n=>some n
 | .xd n .top=>some n
 | _=>none
def Fj (Lm:List (Nat × Nat)) (cl:Cl) (c:C):Option (List (Nat × Nat)):=
 match cl with
 | .obj k=>match IB c with
  | some n=>match look Lm k with
   | some m=>match Nat.beq m n with
    | true=>some Lm
    | false=>none
   | none=>some ((k,n) :: Lm)
  | none=>none
 | _=>some Lm
def Cv:List Cl->List C->List (Nat × Nat)->Option (List (Nat × Nat))
 | [],[],Lm=>some Lm
 | cl :: cls,c :: cs,Lm=>match Fj Lm cl c with
  | some as'=>Cv cls cs as'
  | none=>none
 | _,_,_=>none
def Fk:List Cl->List aZ->List (Nat × Nat)->Option (List (Nat × Nat))
 | [],[],Lm=>some Lm
 | cl :: cls,v :: vs,Lm=>match Fj Lm cl (match v with | .one c=>c | .agg _ => .any) with
  | some as'=>Fk cls vs as'
  | none=>none
 | _,_,_=>none
def rq (ag:List (Nat × OC)):Nat->List Ob->List (Nat × Nat)->Option (List (Nat × Nat))
 | _,[],Lm=>some Lm
 | k, .box _ cls :: r,Lm=>match look Lm k with
  | some n=>match look ag n with
   | some (.cells _ cs)=>match Cv cls cs Lm with
    | some as'=>rq ag (k + 1) r as'
    | none=>none
   | _=>none
  | none=>none
 | k,_ :: r,Lm=>rq ag (k + 1) r Lm
def qo (Lm:List (Nat × Nat)):Nat->Nat->Option (List Nat)
 | _,0=>some []
 | k,m + 1=>match look Lm k,qo Lm (k + 1) m with
  | some n,some l=>some (n :: l)
  | _,_=>none
def nodupB:List Nat->Bool
 | []=>true
 | n :: r => !(iK n r) && nodupB r
def qp:List Nat->Nat->Option Nat
 | n :: _,0=>some n
 | _ :: r,k + 1=>qp r k
 | [],_=>none
def oS:List Ob->Nat->Option Ob
 | o :: _,0=>some o
 | _ :: r,k + 1=>oS r k
 | [],_=>none
def eA (cv:Bool) (ag:List (Nat × OC)) (ak:List Ob) (ν:List Nat) (k:Nat) (c:C):Bool:=
 match oS ak k,qp ν k,c with
 | some (.box _ _),some n, .ref m 0=>Nat.beq n m
 | some (.row _ _),some n, .ax m=>Nat.beq n m && (match look ag n with | some (.ax _ _)=>true | _=>false)
 | some (.row _ t),some n, .app t' _ m=>cv && (Nat.beq n m && (Ty.beq t' t && (match look ag n with | some (.tok _ _)=>true | _=>false)))
 | some (.tok t),some n, .app t' _ m=>Nat.beq n m && Ty.beq t' t
 | some (.ext 0 _),some n, .xd m .top=>Nat.beq n m
 | some (.ext (_ + 1) _),some n, .cV m=>Nat.beq n m
 | _,_,_=>false
def iS (cv:Bool) (ag:List (Nat × OC)) (ak:List Ob) (ν:List Nat):(cls:List Cl)->List C->Option (CD cls)
 | [],[]=>some ()
 | .d t :: r,c :: cs=>match nM t c,iS cv ag ak ν r cs with
  | some x,some y=>some (x,y)
  | _,_=>none
 | .obj k :: r,c :: cs=>match eA cv ag ak ν k c with
  | true=>iS cv ag ak ν r cs
  | false=>none
 | .c8 :: r,c :: cs=>match c with
  | .c8=>iS cv ag ak ν r cs
  | _=>none
 | _,_=>none
def fS (cv:Bool) (ag:List (Nat × OC)) (ak:List Ob) (ν:List Nat):(cls:List Cl)->List aZ->Option (CD cls)
 | [],[]=>some ()
 | .d t :: r,v :: vs=>match lF t v,fS cv ag ak ν r vs with
  | some x,some y=>some (x,y)
  | _,_=>none
 | .obj k :: r,v :: vs=>match v with
  | .one c=>match eA cv ag ak ν k c with
   | true=>fS cv ag ak ν r vs
   | false=>none
  | _=>none
 | .c8 :: r,v :: vs=>match v with
  | .one .c8=>fS cv ag ak ν r vs
  | _=>none
 | _,_=>none
def Fl (t t':Ty) (xs:List (D t')):Option (List (D t)):=
 match h:Ty.beq (.slice t') (.slice t) with
 | true=>some (aX h (a:=.slice t') (b:=.slice t) xs)
 | false=>none
def Ke (t t':Ty) (x:D t'):Option (D t):=
 match h:Ty.beq t' t with
 | true=>some (aX h x)
 | false=>none
def dV (cv:Bool) (ag:List (Nat × OC)) (ak:List Ob) (ν:List Nat):(o:Ob)->OC->Option (OD o)
 | .box T cls, .cells T' cs=>match Nat.beq T' T with
  | true=>iS cv ag ak ν cls cs
  | false=>none
 | .row _ t, .ax t' xs=>Fl t t' xs
 | .row _ t, .tok t' xs=>match cv with
  | true=>Fl t t' xs
  | false=>none
 | .tok t, .tok t' xs=>Fl t t' xs
 | .ext k t, .ext k' t' x=>match Nat.beq k' k with
  | true=>Ke t t' x
  | false=>none
 | _,_=>none
def bS (cv:Bool) (ag:List (Nat × OC)) (ak:List Ob) (ν:List Nat):(os:List Ob)->List Nat->Option (PD os)
 | [],[]=>some ()
 | o :: r,n :: ns=>match look ag n with
  | some oc=>match dV cv ag ak ν o oc,bS cv ag ak ν r ns with
   | some x,some y=>some (x,y)
   | _,_=>none
  | none=>none
 | _,_=>none
def nz:(os:List Ob)->PD os->Nat->C->List Prop
 | .tok t :: _,x,0, .app t' xs _=>match h:Ty.beq (.slice t') (.slice t) with
  | true=>[aX h (a:=.slice t') (b:=.slice t) xs=x.1]
  | false=>[False]
 | .row _ t :: _,x,0, .app t' xs _=>match h:Ty.beq (.slice t') (.slice t) with
  | true=>[aX h (a:=.slice t') (b:=.slice t) xs=x.1]
  | false=>[False]
 | _ :: r,x,k + 1,c=>nz r x.2 k c
 | _,_,_,_=>[]
def ky (ak:List Ob) (x:PD ak):List Cl->List C->List Prop
 | .obj k :: r,c :: cs=>nz ak x k c++ky ak x r cs
 | _ :: r,_ :: cs=>ky ak x r cs
 | _,_=>[]
def gl (ak:List Ob) (x:PD ak):List Cl->List aZ->List Prop
 | .obj k :: r,v :: vs=>(match v with | .one c=>nz ak x k c | .agg _=>[])++gl ak x r vs
 | _ :: r,_ :: vs=>gl ak x r vs
 | _,_=>[]
def dA (ak:List Ob) (x:PD ak) (ag:List (Nat × OC)):List Ob->List Nat->List Prop
 | .box _ cls :: r,n :: ns=>(match look ag n with | some (.cells _ cs)=>ky ak x cls cs | _=>[])++dA ak x ag r ns
 | _ :: r,_ :: ns=>dA ak x ag r ns
 | _,_=>[]
def zC:List Prop->Prop
 | []=>True
 | [p]=>p
 | p :: q :: r=>p/\zC (q :: r)
def Hs:List Prop->VC->VC
 | [],k=>k
 | p :: r,k => .and p (Hs r k)
theorem oT {n:Nat}:∀{l:List Nat},iK n l=true->n∈l
 | [],h=>by simp [iK] at h
 | m :: r,h=>by
  simp only [iK] at h
  split at h
  ·rename_i e;rw [Nat.eq_of_beq_eq_true e];simp
  ·simp [oT h]
theorem bB {α:Type} (l r:List (Nat × α)) (n:Nat):look (l++r) n=match look l n with | some x=>some x | none=>look r n:=by
 induction l with
 | nil=>rfl
 | cons p l ih=>
  obtain ⟨m,x⟩:=p
  simp only [List.cons_append,look]
  cases Nat.beq m n
  ·exact ih
  ·rfl
section
variable (eT:TypeId) (X:Ext)
def qq:Value->Value
 | .tuple vs=>vs.toList.headD .nilFunc
 | v=>v
def vO (ls:List Loc) (k:Nat) (v:Value):Prop:=∃l,ls[k]?=some l/\v=qq l.v
def nA (S:aH) (F:Nat->Value->Prop):(cls:List Cl)->CD cls->List Value->Prop
 | [],_,vs=>vs = []
 | .d t :: r,x,v :: vs=>VR eT t x.1 S.A S.w v/\nA S F r x.2 vs
 | .obj k :: r,x,v :: vs=>F k v/\nA S F r x vs
 | .c8 :: r,x,v :: vs=>v = .pointer none/\nA S F r x vs
 | _,_,_=>False
def Fm (S:aH) (F:Nat->Value->Prop):(o:Ob)->OD o->Loc->Prop
 | .box T cls,x,l=>∃b,∃vs:List Value,l.v = .pointer (some ⟨b,0,none⟩)/\l.bs = [b]/\S.w.heap[b]?=some (.cells vs.toArray T (0,0))/\nA eT S F cls x vs/\∀v∈vs,v.oneCell'=true
 | .row _ t,x,l=>OR eT X S l (.ax t x)
 | .tok t,x,l=>OR eT X S l (.tok t x)
 | .ext k t,x,l=>OR eT X S l (.ext k t x)
def Du (S:aH) (F:Nat->Value->Prop):(os:List Ob)->PD os->List Loc->Prop
 | [],_,ls=>ls = []
 | o :: r,x,l :: ls=>Fm eT X S F o x.1 l/\Du S F r x.2 ls
 | _,_,_=>False
end
section
variable {eT:TypeId} {X:Ext}
theorem dH {a b:List Prop}:(∀p∈a++b,p) ↔ (∀p∈a,p)/\(∀p∈b,p):=by
 simp only [List.mem_append]
 exact ⟨fun h=>⟨fun p hp=>h p (.inl hp),fun p hp=>h p (.inr hp)⟩,fun h p hp=>hp.elim (h.1 p) (h.2 p)⟩
theorem oU:∀{l:List Prop},zC l->∀p∈l,p
 | [],_=>fun p hp=>by simp at hp
 | [q],h=>fun p hp=>by simp at hp;rw [hp];exact h
 | q :: r :: l,h=>fun p hp=>by
  rcases List.mem_cons.1 hp with e | hp
  ·rw [e];exact h.1
  ·exact oU h.2 p hp
theorem tg {k:VC}:∀{l:List Prop},(Hs l k).holds->(∀p∈l,p)/\k.holds
 | [],h=>⟨fun p hp=>by simp at hp,h⟩
 | q :: l,h=>by
  obtain ⟨h1,h2⟩:=h
  obtain ⟨h3,h4⟩:=tg h2
  exact ⟨fun p hp=>by
   rcases List.mem_cons.1 hp with e | hp
   ·rw [e];exact h1
   ·exact h3 p hp,h4⟩
theorem jr {t t':Ty} {xs:List (D t')} {ys:List (D t)} (h:Fl t t' xs=some ys):∃e:t'=t,e▸xs=ys:=by
 unfold Fl at h
 split at h
 ·rename_i hb
  have:t'=t:=by have:=Ty.eq_of_beq hb;cases this;rfl
  subst this
  cases h
  exact ⟨rfl,by rw [cF]⟩
 ·cases h
theorem zD {t t':Ty} {x:D t'} {y:D t} (h:Ke t t' x=some y):∃e:t'=t,e▸x=y:=by
 unfold Ke at h
 split at h
 ·rename_i hb
  have:=Ty.eq_of_beq hb
  subst this
  cases h
  exact ⟨rfl,by rw [ec]⟩
 ·cases h
theorem Cw {t t':Ty} {xs:List (D t')} {ys:List (D t)} (hb:Ty.beq t' t=true) (h:∀p∈(match h:Ty.beq (.slice t') (.slice t) with
  | true=>[aX h (a:=.slice t') (b:=.slice t) xs=ys]
  | false=>[False]),p):∃e:t'=t,e▸xs=ys:=by
 have:=Ty.eq_of_beq hb
 subst this
 refine ⟨rfl,?_⟩
 split at h
 ·rename_i hb'
  have:=h (aX hb' (a:=.slice t') (b:=.slice t') xs=ys) (by simp)
  rw [cF] at this
  exact this
 ·exact (h False (by simp)).elim
theorem rr {cv:Bool} {ak:List Ob} {ν:List Nat} {O:ah} {st:St} {loc:Nat->Loc} {w:World} {c:C} {v:Value} (g:Good eT X (ae O st loc w)) (hc:CR eT (ae O st loc w) c v) :
  ∀{os:List Ob} {ns:List Nat} {x:PD os} {k:Nat},bS cv st.ag ak ν os ns=some x->eA cv st.ag os ns k c=true->(∀p∈nz os x k c,p)->vO (ns.map loc) k v:=by
 intro os
 induction os with
 | nil=>intro ns x k _ h;simp [eA,oS] at h
 | cons o r ih=>
  intro ns x k hg hs hp
  cases ns with
  | nil=>simp [bS] at hg
  | cons n ns=>
   simp only [bS] at hg
   split at hg
   case h_2=>cases hg
   rename_i oc hob
   split at hg
   case h_2=>cases hg
   rename_i x0 y0 h1 h2
   cases hg
   cases k with
   | succ k=>
    have hs':eA cv st.ag r ns k c=true:=by simpa [eA,oS,qp] using hs
    have hp':∀p∈nz r y0 k c,p:=by cases o <;> cases c <;> simpa [nz] using hp
    obtain ⟨l,h3,h4⟩:=ih h2 hs' hp'
    exact ⟨l,by simpa using h3,h4⟩
   | zero=>
    refine ⟨loc n,by simp,?_⟩
    cases o with
    | box T cls=>
     cases c <;> simp [eA,oS,qp] at hs
     rename_i m off
     cases off with
     | succ off=>simp at hs
     | zero=>
      have hs:n=m:=by simpa using hs
      subst hs
      cases oc <;> simp only [dV,reduceCtorEq] at h1
      obtain ⟨b,k1,k2⟩:=hc.2 _ _ hob
      have k1:(loc n).v=_:=k1
      rw [k2,k1];rfl
    | row kp t=>
     cases c <;> simp [eA,oS,qp] at hs
     ·rename_i t' xs m
      obtain ⟨_,hs,hb,hk⟩:=hs
      subst hs
      simp only [nz] at hp
      obtain ⟨e,he⟩:=Cw hb hp
      subst e
      rw [hob] at hk
      cases oc <;> simp at hk
      rename_i t2 ys
      cases cv <;> simp only [dV,reduceCtorEq] at h1
      obtain ⟨e2,h3⟩:=jr h1
      subst e2
      simp only at h3 he
      subst h3
      subst he
      have hv:=(hc.2.2 _ hob).2 rfl
      rcases (g.obj n _ hob).2 with ⟨_,⟨a,ha⟩,_⟩ | ⟨b,vs,T,cap,ha,_⟩ <;> (rw [hv];show (loc n).v=qq (loc n).v;rw [show (loc n).v=_ from ha];rfl)
     ·rename_i m
      obtain ⟨hs,hk⟩:=hs
      subst hs
      rw [hob] at hk
      cases oc <;> simp at hk
      rw [hc.2 _ _ hob]
      rcases (g.obj n _ hob).2 with ⟨_,⟨a,ha⟩,_⟩ | ⟨b,vs,T,cap,ha,_⟩ <;> rw [show (ae O st loc w).loc n=loc n from rfl,show (loc n).v=_ from ha] <;> rfl
    | tok t=>
     cases c <;> simp [eA,oS,qp] at hs
     rename_i t' xs m
     obtain ⟨hs,hb⟩:=hs
     subst hs
     simp only [nz] at hp
     obtain ⟨e,he⟩:=Cw hb hp
     subst e
     cases oc <;> simp only [dV,reduceCtorEq] at h1
     obtain ⟨e2,h3⟩:=jr h1
     subst e2
     simp only at h3 he
     subst h3
     subst he
     have hv:=(hc.2.2 _ hob).2 rfl
     rcases (g.obj n _ hob).2 with ⟨_,⟨a,ha⟩,_⟩ | ⟨b,vs,T,cap,ha,_⟩ <;> (rw [hv];show (loc n).v=qq (loc n).v;rw [show (loc n).v=_ from ha];rfl)
    | ext k t=>
     cases k with
     | zero=>
      cases c <;> simp [eA,oS,qp] at hs
      rename_i m p
      cases p <;> simp at hs
      subst hs
      cases oc <;> simp only [dV,reduceCtorEq] at h1
      split at h1
      case h_2=>cases h1
      rename_i hk
      have hk:=Nat.eq_of_beq_eq_true hk
      subst hk
      obtain ⟨hs',hl⟩:=hc.2 _ _ hob
      rw [show (loc n).v=_ from hl];rfl
     | succ k=>
      cases c <;> simp [eA,oS,qp] at hs
      subst hs
      cases oc <;> simp only [dV,reduceCtorEq] at h1
      split at h1
      case h_2=>cases h1
      rename_i hk
      have hk:=Nat.eq_of_beq_eq_true hk
      have hgx:=(g.obj n _ hob).2
      have hv:∃u,(loc n).v=u/\qq u=u:=by
       subst hk
       cases k with
       | zero=>obtain ⟨e,_,b,es,b9,hm⟩:=X.map.1 hgx;exact ⟨_,hm.lv,rfl⟩
       | succ k=>obtain ⟨a,ha⟩:=X.ptr (by omega) hgx;exact ⟨_,ha,rfl⟩
      obtain ⟨u,hu,hu2⟩:=hv
      rw [hc.2 _ hob rfl,show (ae O st loc w).loc n=loc n from rfl,hu];exact hu2.symm
theorem Dv {cv:Bool} {ak:List Ob} {ν:List Nat} {x:PD ak} {O:ah} {st:St} {loc:Nat->Loc} {w:World} (g:Good eT X (ae O st loc w)) (hx:bS cv st.ag ak ν ak ν=some x) :
  ∀{cls:List Cl} {cs:List C} {y:CD cls} {vs:List Value},iS cv st.ag ak ν cls cs=some y->bR eT (ae O st loc w) cs vs->(∀p∈ky ak x cls cs,p)->
   nA eT (ae O st loc w) (vO (ν.map loc)) cls y vs:=by
 intro cls
 induction cls with
 | nil=>
  intro cs y vs h hc _
  cases cs with
  | nil=>cases hc;exact rfl
  | cons c cs=>simp [iS] at h
 | cons cl r ih=>
  intro cs y vs h hc hp
  cases hc with
  | nil=>cases cl <;> simp [iS] at h
  | cons h1 h2 h3=>
   rename_i c v cs vs
   cases cl with
   | d t=>
    simp only [iS] at h
    split at h
    ·rename_i x0 y0 k1 k2
     cases h
     exact ⟨kq k1 h1,ih k2 h3 (fun p hp'=>hp p (by simpa [ky] using hp'))⟩
    ·cases h
   | obj k=>
    simp only [iS] at h
    split at h
    ·rename_i hs
     simp only [ky] at hp
     obtain ⟨p1,p2⟩:=dH.1 hp
     exact ⟨rr g h1 hx hs p1,ih h h3 p2⟩
    ·cases h
   | c8=>
    simp only [iS] at h
    split at h
    ·exact ⟨h1,ih h h3 (fun p hp'=>hp p (by simpa [ky] using hp'))⟩
    ·cases h
theorem wM {cv:Bool} {ak:List Ob} {ν:List Nat} {x:PD ak} {O:ah} {st:St} {loc:Nat->Loc} {w:World} (g:Good eT X (ae O st loc w)) (hx:bS cv st.ag ak ν ak ν=some x) :
  ∀{cls:List Cl} {cs:List aZ} {y:CD cls} {vs:List Value},fS cv st.ag ak ν cls cs=some y->bc eT (ae O st loc w) cs vs->(∀p∈gl ak x cls cs,p)->
   nA eT (ae O st loc w) (vO (ν.map loc)) cls y vs:=by
 intro cls
 induction cls with
 | nil=>
  intro cs y vs h hc _
  cases cs with
  | nil=>cases hc;exact rfl
  | cons c cs=>simp [fS] at h
 | cons cl r ih=>
  intro cs y vs h hc hp
  cases hc with
  | nil=>cases cl <;> simp [fS] at h
  | cons h1 h3=>
   rename_i c v cs vs
   cases cl with
   | d t=>
    simp only [fS] at h
    split at h
    ·rename_i x0 y0 k1 k2
     cases h
     exact ⟨fP k1 h1,ih k2 h3 (fun p hp'=>hp p (by simpa [gl] using hp'))⟩
    ·cases h
   | obj k=>
    simp only [fS] at h
    split at h
    ·split at h
     ·rename_i hs
      simp only [gl] at hp
      obtain ⟨p1,p2⟩:=dH.1 hp
      exact ⟨rr g h1 hx hs p1,ih h h3 p2⟩
     ·cases h
    ·cases h
   | c8=>
    simp only [fS] at h
    split at h
    ·exact ⟨h1,ih h h3 (fun p hp'=>hp p (by simpa [gl] using hp'))⟩
    ·cases h
theorem jP {cv:Bool} {ak:List Ob} {ν:List Nat} {x:PD ak} {O:ah} {st:St} {loc:Nat->Loc} {w:World} (g:Good eT X (ae O st loc w)) (hx:bS cv st.ag ak ν ak ν=some x) :
  ∀{os:List Ob} {ns:List Nat} {y:PD os},bS cv st.ag ak ν os ns=some y->(∀p∈dA ak x st.ag os ns,p)->
   Du eT X (ae O st loc w) (vO (ν.map loc)) os y (ns.map loc):=by
 intro os
 induction os with
 | nil=>
  intro ns y h _
  cases ns with
  | nil=>exact rfl
  | cons n ns=>simp [bS] at h
 | cons o r ih=>
  intro ns y h hp
  cases ns with
  | nil=>simp [bS] at h
  | cons n ns=>
   simp only [bS] at h
   split at h
   case h_2=>cases h
   rename_i oc hob
   split at h
   case h_2=>cases h
   rename_i x0 y0 h1 h2
   cases h
   have hor:=(g.obj n oc hob).2
   have hrest:∀p∈dA ak x st.ag r ns,p:=by
    cases o <;> simp only [dA] at hp
    ·exact (dH.1 hp).2
    ·exact hp
    ·exact hp
    ·exact hp
   refine ⟨?_,ih h2 hrest⟩
   show Fm eT X _ _ o x0 (loc n)
   cases o with
   | box T cls=>
    cases oc <;> simp only [dV,reduceCtorEq] at h1
    rename_i T' cs
    split at h1
    case h_2=>cases h1
    rename_i hT
    have hT:=Nat.eq_of_beq_eq_true hT
    subst hT
    obtain ⟨b,vs,k1,k2,k3,k4⟩:=hor
    simp only [dA,hob] at hp
    exact ⟨b,vs,k1,k2,k3,Dv g hx h1 k4 (dH.1 hp).1,fun v hv=>bR.yH k4 v hv⟩
   | row kp t=>
    cases oc <;> simp only [dV,reduceCtorEq] at h1
    ·obtain ⟨e,h3⟩:=jr h1
     subst e;simp only at h3;subst h3
     exact hor
    ·split at h1
     ·obtain ⟨e,h3⟩:=jr h1
      subst e;simp only at h3;subst h3
      exact hor
     ·cases h1
   | tok t=>
    cases oc <;> simp only [dV,reduceCtorEq] at h1
    obtain ⟨e,h3⟩:=jr h1
    subst e;simp only at h3;subst h3
    exact hor
   | ext k t=>
    cases oc <;> simp only [dV,reduceCtorEq] at h1
    split at h1
    case h_2=>cases h1
    rename_i hk
    have hk:=Nat.eq_of_beq_eq_true hk
    subst hk
    obtain ⟨e,h3⟩:=zD h1
    subst e;simp only at h3;subst h3
    exact hor
end
end Go.Vg

