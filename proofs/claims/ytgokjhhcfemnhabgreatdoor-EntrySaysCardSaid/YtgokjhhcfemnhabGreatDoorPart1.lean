/- A part of the proof that the law EntrySaysCard holds of the given program: facts that are used there. -/
import Derived.Test.YtgokjhhcfemnhabGreatDoorPart0
import Derived.Maps.RangeRun
import Derived.Laws.BytesString
set_option linter.unusedSimpArgs false
set_option linter.unusedVariables false
namespace Go.Vg
open Go.RowKit
def N3 (n:Nat) (e:Ty) (xs:List (D e)):C:=
 match n with
 | 0 => .emp
 | _ => .d (.slice e) xs
def rj (cx:Cx) (st:St) (t:TypeId) (n:Nat) (parts:List (Nat × Operand)) (K:C->VC):VC:=
 match look cx.τ t with
 | some (.slice e)=>match qW 0 parts && (Nat.beq parts.length n && (Nat.ble (n * e.size) 16777216 && Nat.ble n 1000000)),ou e (parts.map fun p=>qz st.env p.2) with
  | true,some xs=>K (N3 n e xs)
  | _,_ => .ff
 | _ => .ff
def uh (cx:Cx) (st:St) (t:TypeId) (n:Nat) (parts:List (Nat × Operand)) (K:SV->St->VC):VC:=
 match look cx.τ t with
 | some (.slice e)=>match qW 0 parts && (Nat.beq parts.length n && (Nat.ble (n * e.size) 16777216 && Nat.ble n 1000000)),ou e (parts.map fun p=>qz st.env p.2) with
  | true,some xs=>K (.s (.one (.app e xs (st.next + 1)))) (fresh (bL (fresh st (.bE e xs)) st.next) (.tok e xs))
  | _,_ => .ff
 | _ => .ff
def sN (cx:Cx) (st:St) (t:TypeId) (l c:C) (K:SV->St->VC):VC:=
 match look cx.τ t,rh l,rh c with
 | some (.slice e),some n,some m=>match pU e with
  | true => .and (0<=n/\m=n/\n<=1000000000) (K (.s (.one (.bE st.next))) (fresh st (.bE e (List.replicate n.toNat (bO e)))))
  | false => .ff
 | _,_,_ => .ff
section
variable {X:Ext} {P:Program} {cx:Cx}
theorem Gb {eT:TypeId} {A:aM} {w:World}:∀{ty:Ty} {vs:List Value},fF ty vs=true->pU ty=true->R eT ty (bO ty) A w vs:=by
 intro ty
 induction ty with
 | prod a b iha ihb=>
  intro vs h hn
  simp only [fF,Bool.and_eq_true] at h
  simp only [pU,Bool.and_eq_true] at hn
  exact ⟨_,_,(List.take_append_drop a.size vs).symm,iha h.1 hn.1,ihb h.2 hn.2⟩
 | unit=>intro vs h _;cases vs <;> simp [fF] at h;rfl
 | bool=>
  intro vs h _
  match vs,h with
  | [v],h=>cases v <;> simp [fF,Ty.one,zeroCell] at h;subst h;rfl
 | int k=>
  intro vs h _
  match vs,h with
  | [v],h=>
   cases v <;> simp [fF,Ty.one,zeroCell] at h
   obtain ⟨rfl,rfl⟩:=h
   exact ⟨rfl,by cases k <;> simp [bO,IntKind.min,IntKind.max,IntKind.signed,IntKind.bits]⟩
 | str=>
  intro vs h _
  match vs,h with
  | [v],h=>cases v <;> simp [fF,Ty.one,zeroCell] at h;subst h;exact ⟨rfl,by simp [bO]⟩
 | err=>
  intro vs h _
  match vs,h with
  | [v],h=>cases v <;> simp [fF,Ty.one,zeroCell] at h;exact ⟨_,rfl,rfl⟩
 | fK=>intro vs h hn;simp [pU] at hn
 | slice e _=>
  intro vs h _
  match vs,h with
  | [v],h=>
   cases v <;> simp [fF,Ty.one,zeroCell] at h
   rename_i a l c
   cases a <;> simp at h
   obtain ⟨rfl,rfl⟩:=h
   exact R.qa
theorem Gc {eT:TypeId} {A:aM} {w:World} {e:Ty} (hno:pU e=true):∀{n:Nat} {vs:List Value},px e n vs=true->
  vs.length=n * e.size/\∀(i:Nat) (y:D e),(List.replicate n (bO e))[i]?=some y->∃us,R eT e y A w us/\∀j u,us[j]?=some u->vs[i * e.size + j]?=some u:=by
 intro n
 induction n with
 | zero=>
  intro vs h
  simp only [px,List.isEmpty_iff] at h
  subst h
  exact ⟨by simp,fun i y hy=>by simp at hy⟩
 | succ n ih=>
  intro vs h
  simp only [px,Bool.and_eq_true] at h
  obtain ⟨h1,h2⟩:=h
  have r0:=Gb (eT:=eT) (A:=A) (w:=w) h1 hno
  have hl0:=r0.length
  obtain ⟨hl,hel⟩:=ih h2
  have hle:e.size<=vs.length:=by rw [List.length_take] at hl0;omega
  refine ⟨by rw [List.length_drop] at hl;rw [Nat.succ_mul];omega,fun i y hy => ?_⟩
  cases i with
  | zero=>
   simp only [List.replicate_succ,List.getElem?_cons_zero,Option.some.injEq] at hy
   subst hy
   refine ⟨_,r0,fun j u hj => ?_⟩
   rw [List.getElem?_take] at hj
   split at hj
   ·simpa using hj
   ·cases hj
  | succ i=>
   simp only [List.replicate_succ,List.getElem?_cons_succ] at hy
   obtain ⟨us,k1,k2⟩:=hel i y hy
   refine ⟨us,k1,fun j u hj => ?_⟩
   have:=k2 j u hj
   rw [List.getElem?_drop] at this
   rw [<-this]
   congr 1
   rw [Nat.succ_mul];omega
theorem Gd (size:Nat):∀(pv:List (Nat × Value)) (k:Nat) (cells:Array Value),(∀i p,pv[i]?=some p->p.1=k + i)->(∀p∈pv,p.2.cells.size=size)->k * size + pv.length * size=cells.size->
  Instr.fill (fun i=>some (i * size,size)) cells pv=some (cells.toList.take (k * size)++(pv.map fun p=>p.2.cells.toList).flatten).toArray:=by
 intro pv
 induction pv with
 | nil=>
  intro k cells _ _ h
  simp only [Instr.fill,List.map_nil,List.flatten_nil,List.append_nil]
  rw [List.take_of_length_le (by simp at h ⊢;omega),Array.toArray_toList]
 | cons p pv ih=>
  intro k cells hi hs h
  obtain ⟨i,v⟩:=p
  have h0:i=k:=by simpa using hi 0 (i,v) rfl
  subst h0
  have hv:=hs (i,v) (by simp)
  simp only at hv
  simp only [List.length_cons,Nat.add_mul] at h
  rw [Dg _ cells i (i * size) size v pv rfl hv (by omega)]
  have hvl:v.cells.toList.length=size:=by simpa using hv
  have e1:(cells.toList.take (i * size)++v.cells.toList++cells.toList.drop (i * size + v.cells.toList.length)).toArray.size=cells.size:=by
   simp only [List.size_toArray,List.length_append,List.length_take,List.length_drop,Array.length_toList,hvl]
   omega
  rw [ih (i + 1) _ (fun j p hp=>by have:=hi (j + 1) p (by simpa using hp);omega) (fun p hp=>hs p (by simp [hp])) (by rw [e1,Nat.add_mul];omega)]
  congr 2
  rw [List.map_cons,List.flatten_cons,<-List.append_assoc]
  congr 1
  have hl:(cells.toList.take (i * size)++v.cells.toList).length=(i + 1) * size:=by
   simp only [List.length_append,List.length_take,Array.length_toList,hvl,Nat.add_mul];omega
  rw [List.take_append_of_le_length (by omega),List.take_of_length_le (by omega)]
theorem Ge {S:bN} {e:Ty}:∀{l:List dE} {us:List Value} {xs:List (D e)},ou e l=some xs->dR cx.eT S l us->
  xs.length=l.length/\(∀u∈us,u.cells.size=e.size)/\gA cx.eT e xs S.A S.w (us.map fun u=>u.cells.toList).flatten:=by
 intro l
 induction l with
 | nil=>intro us xs h hr;cases hr;simp [ou] at h;subst h;exact ⟨rfl,by simp,fun i y hy=>by simp at hy⟩
 | cons v l ih=>
  intro us xs h hr
  cases hr with
  | cons h1 h2=>
   rename_i u us
   simp only [ou] at h
   split at h
   ·rename_i x xs' hx hxs
    cases h
    obtain ⟨k1,k2,k3⟩:=ih hxs h2
    have hvr:=VR.cells (lK hx h1)
    refine ⟨by simp [k1],fun u' hu' => ?_,?_⟩
    ·rcases List.mem_cons.1 hu' with rfl | hu'
     ·rw [<-Array.length_toList,hvr.length]
     ·exact k2 _ hu'
    ·rw [List.map_cons,List.flatten_cons]
     exact gA.cons hvr k3
   ·cases h
theorem KL {S:bN} {env:List (Nat × SV)} {a:Act} (he:jg cx.eT S env a):∀(ps:List (Nat × Operand)),dR cx.eT S (ps.map fun p=>qz env p.2) (ps.map fun p=>a.eval p.2)
 | [] => .nil
 | p :: ps => .cons (l8 he p.2) (KL he ps)
theorem Ja:∀{ps:List (Nat × Operand)} {k:Nat},qW k ps=true->∀i p,ps[i]?=some p->p.1=k + i:=by
 intro ps
 induction ps with
 | nil=>intro k _ i p h;simp at h
 | cons q ps ih=>
  intro k h i p hp
  obtain ⟨j,x⟩:=q
  simp only [qW,Bool.and_eq_true] at h
  cases i with
  | zero=>simp at hp;subst hp;exact Nat.eq_of_beq_eq_true h.1
  | succ i=>have:=ih h.2 i p (by simpa using hp);omega
theorem Di {O:aM} {st:St} {loc:Nat->Loc} {w:World} {a:Act} (he:jg cx.eT (aB O st loc w) st.env a)
  {t te:TypeId} {ti:TypeInfo} {td:TypeDesc} {e:Ty} {n:Nat} {parts:Array (Nat × Operand)} {xs:List (D e)} (hu:P.underlying t=some (.slice te)) (hf:Fit P te e ti td) {z:Value} (hz:ti.zero=some z)
  (hzr:fF e z.cells.toList=true)
  (hc:(qW 0 parts.toList && (Nat.beq parts.toList.length n && (Nat.ble (n * e.size) 16777216 && Nat.ble n 1000000)))=true) (hd:ou e (parts.toList.map fun p=>qz st.env p.2)=some xs) :
  ∃flat:List Value,xs.length=n/\n<=1000000/\flat.length=n * e.size/\gA cx.eT e xs (aB O st loc w).A w flat/\
   (Instr.buildSlice t n (parts.map fun (i,x)=>(i,a.eval x))).run P w = .ok (.slice (some ⟨w.heap.size,0,none⟩) n n) (w.alloc (.cells flat.toArray te)):=by
 simp only [Bool.and_eq_true] at hc
 obtain ⟨hio,hn,hsz,hbig⟩:=hc
 have hn:=Nat.eq_of_beq_eq_true hn
 have hsz:=Nat.le_of_ble_eq_true hsz
 have hbig:=Nat.le_of_ble_eq_true hbig
 obtain ⟨k1,k2,k3⟩:=Ge (cx:=cx) hd (KL he parts.toList)
 have hxl:xs.length=n:=by rw [k1,List.length_map,hn]
 have hpl:(parts.map fun (i,x)=>(i,a.eval x)).toList=parts.toList.map fun p=>(p.1,a.eval p.2):=by simp
 have hzs:z.cells.size=e.size:=by rw [<-Array.length_toList];exact (lL (S:=aB O st loc w) (cx:=cx) hzr).length.symm.trans (jE e)
 generalize hflat:((parts.toList.map fun p=>a.eval p.2).map fun u=>u.cells.toList).flatten=flat at k3
 have hflen:flat.length=n * e.size:=by
  rw [<-hflat,<-hn]
  generalize parts.toList=l at k2
  clear hflat hpl hn hio hd k1 k3
  induction l with
  | nil=>simp
  | cons p l ih=>
   simp only [List.map_cons,List.flatten_cons,List.length_append,Array.length_toList,List.length_cons,Nat.add_mul]
   rw [ih (fun u hu=>k2 u (by simp only [List.map_cons,List.mem_cons];exact .inr hu)),k2 (a.eval p.2) (by simp)]
   omega
 have hfill:∀cells:Array Value,cells.size=n * e.size->Instr.fill (fun i=>some (i * e.size,e.size)) cells (parts.toList.map fun p=>(p.1,a.eval p.2))=some flat.toArray:=by
  intro cells hcs
  rw [Gd e.size _ 0 cells (fun i p hp=>by
    rw [List.getElem?_map] at hp
    cases hq:parts.toList[i]? with
    | none=>rw [hq] at hp;cases hp
    | some q=>rw [hq] at hp;cases hp;exact Ja hio i q hq)
   (fun p hp=>by
    obtain ⟨q,hq,rfl⟩:=List.mem_map.1 hp
    exact k2 _ (List.mem_map.2 ⟨q,hq,rfl⟩))
   (by simp [hn,hcs])]
  simp only [Nat.zero_mul,List.take_zero,List.nil_append]
  rw [<-hflat]
  simp [List.map_map,Function.comp_def]
 refine ⟨flat,hxl,hbig,hflen,k3,?_⟩
 have hsz':¬ (n * e.size > 2 ^ 24):=by omega
 by_cases h0:n * e.size=0
 ·simp [Instr.buildSlice,run_underlying hu,gz hf,h0,newRow]
  rw [hfill _ (by rw [h0];simp)]
  simp
 ·have:=hfill ((Array.range (n * e.size)).map fun k=>z.cells[k % z.cells.size]!) (by simp)
  simp [Instr.buildSlice,run_underlying hu,gz hf,h0,hsz',newRow,zeroValue,typeInfo,hf.info,hz]
  rw [this]
  simp
theorem wh (hok:TyOK P cx) {O:aM} {st:St} {loc:Nat->Loc} {w:World} {a:Act} (g:Good cx.eT X (aB O st loc w)) (hO:gv O w) (he:jg cx.eT (aB O st loc w) st.env a)
  {t:TypeId} {n:Nat} {parts:Array (Nat × Operand)} {K:C->VC} (h:(rj cx st t n parts.toList K).holds) :
  ∃c v w',(K c).holds/\Below w.heap.size w w'/\Good cx.eT X (aB O st loc w')/\Tr (aB O st loc w) (aB O st loc w')/\CR cx.eT (aB O st loc w') c v/\(Instr.buildSlice t n (parts.map fun (i,x)=>(i,a.eval x))).run P w = .ok v w':=by
 unfold rj at h
 split at h
 ·rename_i e ht
  obtain ⟨te,ti,td,hu,hf⟩:=ia hok ht
  obtain ⟨z,hz,hzr⟩:=hf.zero
  split at h
  ·rename_i xs hc hd
   obtain ⟨flat,hxl,hbig,hflen,k3,hrun⟩:=Di he hu hf hz hzr hc hd
   have hw:Below w.heap.size w (w.alloc (.cells flat.toArray te)):=(Below.refl _ w).alloc (Nat.le_refl _) _
   obtain ⟨tr,g'⟩:=ua (S:=aB O st loc w) (S':=aB O st loc (w.alloc (.cells flat.toArray te))) g rfl rfl rfl rfl hw
   have hheap:(w.alloc (.cells flat.toArray te)).heap[w.heap.size]?=some (.cells flat.toArray te (0,0)):=heap_alloc_new w _
   refine ⟨_, .slice (some ⟨w.heap.size,0,none⟩) n n,_,h,hw,g',tr,?_,?_⟩
   ·have mk:∀v,(n=0->∃a,v=Value.slice a 0 0)->CR cx.eT (aB O st loc (w.alloc (.cells flat.toArray te))) (.d (.slice e) xs) v->CR cx.eT (aB O st loc (w.alloc (.cells flat.toArray te))) (N3 n e xs) v:=by
     intro v h1 h2
     cases n with
     | zero=>exact h1 rfl
     | succ n=>exact h2
    refine mk _ (fun h0=>⟨some ⟨w.heap.size,0,none⟩,by rw [h0]⟩) ?_
    show VR cx.eT (.slice e) xs _ _ _
    have:=pz (eT:=cx.eT) (xs:=xs) (A:=(aB O st loc (w.alloc (.cells flat.toArray te))).A) (w:=w.alloc (.cells flat.toArray te)) (b:=w.heap.size) (o:=0) (cap:=n) (cs:=flat)
     (by rw [hxl];unfold aJ;omega) (by omega) ?_ (k3.frame tr.cell)
    ·rw [hxl] at this;exact this
    ·intro j u hj
     rw [Nat.zero_add,cell_of_row _ w.heap.size j _ te (0,0) hheap]
     refine ⟨by simpa using hj,?_⟩
     rintro (hA | ⟨m,oc,h1,h2,_⟩)
     ·have:=hO _ _ hA;omega
     ·have:=(g.obj m oc h1).2.inside _ h2
      simp [aB] at this
   ·exact hrun
  ·exact h.elim
 ·exact h.elim
theorem zU (hok:TyOK P cx) {O:aM} {st:St} {loc:Nat->Loc} {w:World} {a:Act} (g:Good cx.eT X (aB O st loc w)) (hO:gv O w) (he:jg cx.eT (aB O st loc w) st.env a)
  {t:TypeId} {n:Nat} {parts:Array (Nat × Operand)} {K:SV->St->VC} (h:(uh cx st t n parts.toList K).holds) :
  ∃sv v st' loc' w',(K sv st').holds/\Below w.heap.size w w'/\st'.env=st.env/\Good cx.eT X (aB O st' loc' w')/\Tr (aB O st loc w) (aB O st' loc' w')/\eH cx.eT (aB O st' loc' w') sv v/\(Instr.buildSlice t n (parts.map fun (i,x)=>(i,a.eval x))).run P w = .ok v w':=by
 unfold uh at h
 split at h
 ·rename_i e ht
  obtain ⟨te,ti,td,hu,hf⟩:=ia hok ht
  obtain ⟨z,hz,hzr⟩:=hf.zero
  split at h
  ·rename_i xs hc hd
   obtain ⟨flat,hxl,hbig,hflen,k3,hrun⟩:=Di he hu hf hz hzr hc hd
   have hw:Below w.heap.size w (w.alloc (.cells flat.toArray te)):=(Below.refl _ w).alloc (Nat.le_refl _) _
   obtain ⟨tr,g'⟩:=gW (oc:=.bE e xs) (l:=⟨.slice (some ⟨w.heap.size,0,none⟩) n n,[w.heap.size]⟩) g hO hw (by simp)
   have hg:=g' (.inr ⟨w.heap.size,flat.toArray,te,n,by rw [hxl],rfl,heap_alloc_new w _,by simp [hflen],by omega,by rw [hxl];unfold aJ;omega,fun i y hy=>by
    obtain ⟨us,r1,r2⟩:=(k3.frame tr.cell) i y hy
    exact ⟨us,r1,fun j u hj=>by have:=r2 j u hj;simpa using this⟩⟩)
   obtain ⟨loc2,t2,g2,c2,_⟩:=wc (n:=st.next) (e:=e) (zs:=xs) (v:=.slice (some ⟨w.heap.size,0,none⟩) n n) hg (hO.tr tr.size) (by simp [fresh,cV]) ⟨by simp [aB,fresh],fun t' xs' hy=>by simp [aB,cI]⟩
   exact ⟨_,_,_,loc2,_,h,hw,rfl,g2,tr.trans t2,c2,hrun⟩
  ·exact h.elim
 ·exact h.elim
theorem yq (hok:TyOK P cx) {O:aM} {st:St} {loc:Nat->Loc} {w:World} (g:Good cx.eT X (aB O st loc w)) (hO:gv O w)
  {t:TypeId} {l c:C} {vl vc:Value} {K:SV->St->VC} (hl:CR cx.eT (aB O st loc w) l vl) (hc:CR cx.eT (aB O st loc w) c vc) (h:(sN cx st t l c K).holds) :
  ∃sv v st' loc' w',(K sv st').holds/\Below w.heap.size w w'/\st'.env=st.env/\Good cx.eT X (aB O st' loc' w')/\Tr (aB O st loc w) (aB O st' loc' w')/\eH cx.eT (aB O st' loc' w') sv v/\(Instr.makeSlice t vl vc).run P w = .ok v w':=by
 unfold sN at h
 split at h
 ·rename_i e n m ht hn hm
  obtain ⟨te,ti,td,hu,hf⟩:=ia hok ht
  obtain ⟨z,hz,hzr⟩:=hf.zero
  split at h
  ·rename_i hno
   obtain ⟨⟨h0,hmn,hbig⟩,h⟩:=h
   subst hmn
   obtain ⟨kl,rfl,_⟩:=nf hn hl
   obtain ⟨kc,rfl,_⟩:=nf hm hc
   have hbytes:(ti.bytes:Int) * m<=281474976710656:=by
    have h1:=hf.bytes
    have h2:(ti.bytes:Int) * m<=4096 * 1000000000:=Int.mul_le_mul (by omega) hbig h0 (by omega)
    omega
   have hrun:=run_make (P:=P) w t te ti z hu hf.info hz kl kc m m h0 (Int.le_refl _) hbytes (by omega)
   have hzs:z.cells.size=e.size:=by rw [<-Array.length_toList];exact (lL (S:=aB O st loc w) (cx:=cx) hzr).length.symm.trans (jE e)
   have hw:Below w.heap.size w (w.alloc (.cells (madeCells z.cells (m.toNat * ti.size)) te)):=(Below.refl _ w).alloc (Nat.le_refl _) _
   obtain ⟨tr,g'⟩:=gW (oc:=.bE e (List.replicate m.toNat (bO e))) (l:=⟨.slice (some ⟨w.heap.size,0,none⟩) m.toNat m.toNat,[w.heap.size]⟩) g hO hw (by simp)
   have hg:=g' (.inr ⟨w.heap.size,madeCells z.cells (m.toNat * ti.size),te,m.toNat,by simp,rfl,heap_alloc_new w _,by rw [size_madeCells,hf.size],by simp,by simp;unfold aJ;omega,?_⟩)
   ·refine ⟨_,_,_,_,_,h,hw,rfl,hg,tr,⟨by simp [aB,fresh],fun t' xs' hy => ?_⟩,hrun⟩
    simp [aB,cI]
   ·intro i y hy
    have hi:=bI hy
    rw [List.length_replicate] at hi
    rw [List.getElem?_replicate,if_pos hi] at hy
    cases hy
    refine ⟨z.cells.toList,Gb hzr hno,fun j u hj => ?_⟩
    have hjl:=bI hj
    rw [Array.length_toList] at hjl
    have hlt:i * e.size + j < m.toNat * ti.size:=by
     have:(i + 1) * e.size<=m.toNat * e.size:=Nat.mul_le_mul_right _ hi
     rw [Nat.add_mul] at this
     rw [hf.size]
     omega
    have hmod:(i * e.size + j) % z.cells.size=j:=by
     rw [hzs,Nat.add_comm,Nat.add_mul_mod_self_right,Nat.mod_eq_of_lt (by omega)]
    simp only [madeCells,Array.getElem?_map,Array.getElem?_range,hlt,if_true,Option.map_some,hmod]
    rw [getElem!_pos z.cells j hjl]
    rw [Array.getElem?_toList,Array.getElem?_eq_getElem hjl] at hj
    exact hj
  ·exact h.elim
 ·exact h.elim
def AS (st:St) (e:Ty) (d:C):Option (Nat × (List (D e) × (Nat × Nat))):=
 match d with
 | .bE n=>match look st.aK n with
  | some (.bE e' xs)=>match h:Ty.beq (.slice e') (.slice e) with
   | true=>some (n,(cR h (a:=.slice e') (b:=.slice e) xs,(0,xs.length)))
   | false=>none
  | _=>none
 | .oN n u lo len=>match look st.aK n with
  | some (.bE e' xs)=>match h:Ty.beq (.slice e') (.slice e),Ty.beq u e' with
   | true,true=>some (n,(cR h (a:=.slice e') (b:=.slice e) xs,(lo,len)))
   | _,_=>none
  | _=>none
 | _=>none
def zV (st:St) (e:Ty) (s:C):Option (List (D e) × Prop):=
 match wa st e s with
 | some ys=>some (ys,True)
 | none=>match s with
  | .oN _ _ _ _=>match AS st e s with
   | some (_,(zs,(lo,len)))=>some ((zs.drop lo).take len,lo + len<=zs.length)
   | none=>none
  | _=>none
def Gf (cx:Cx) (st:St) (t:TypeId) (d s:C) (K:SV->St->VC):VC:=
 match look cx.τ t with
 | some (.slice e)=>match e.one,AS st e d,zV st e s with
  | true,some (n,(xs,(lo,len))),some (ys,p) => .and (p/\lo + len<=xs.length)
    (K (.s (.one (.d (.int .i64) (min ys.length len:Nat)))) (setObj st n (.bE e (xs.take lo++ys.take (min ys.length len)++xs.drop (lo + min ys.length len)))))
  | _,_,_ => .ff
 | _ => .ff
theorem AT {O:aM} {st:St} {loc:Nat->Loc} {w:World} {e:Ty} {d:C} {n lo len:Nat} {xs:List (D e)} {v:Value} (h:AS st e d=some (n,(xs,(lo,len)))) (hd:CR cx.eT (aB O st loc w) d v) :
  look st.aK n=some (.bE e xs)/\((OR cx.eT X (aB O st loc w) (loc n) (.bE e xs))->(len=0/\∃a c,v = .slice a 0 c)\/∃b c,(loc n).bs = [b]/\v = .slice (some ⟨b,lo * e.size,none⟩) len c):=by
 unfold AS at h
 split at h
 ·rename_i n'
  split at h
  ·rename_i e' xs' hob
   split at h
   ·rename_i hb
    have:e'=e:=by have:=Ty.eq_of_beq hb;cases this;rfl
    subst this
    rw [gB] at h
    cases h
    refine ⟨hob,fun hor => ?_⟩
    have hv:=hd.2 _ _ hob
    rcases hor with ⟨rfl,⟨a,ha⟩,_⟩ | ⟨b,vs,T,cap,h1,h2,_⟩
    ·exact .inl ⟨rfl,a,0,hv.trans ha⟩
    ·exact .inr ⟨b,cap,h2,by rw [Nat.zero_mul];exact hv.trans h1⟩
   ·cases h
  ·cases h
 ·rename_i n' u lo' len'
  split at h
  ·rename_i e' xs' hob
   split at h
   ·rename_i hb hu
    have:e'=e:=by have:=Ty.eq_of_beq hb;cases this;rfl
    subst this
    have:=Ty.eq_of_beq hu
    subst this
    rw [gB] at h
    cases h
    exact ⟨hob,fun _=>hd.2 _ hob⟩
   ·cases h
  ·cases h
 ·cases h
theorem U6 {eT:TypeId} {e:Ty} {xs:List (D e)} {A:aM} {w:World} {cs:List Value} (h:gA eT e xs A w cs) (lo len:Nat):gA eT e ((xs.drop lo).take len) A w ((cs.drop (lo * e.size)).take (len * e.size)):=by
 intro i y hy
 rw [List.getElem?_take] at hy
 split at hy
 ·rename_i hi
  rw [List.getElem?_drop] at hy
  obtain ⟨us,h1,h2⟩:=h _ y hy
  refine ⟨us,h1,fun j u hj => ?_⟩
  have hjl:=bI hj
  rw [h1.length] at hjl
  have h3:=h2 j u hj
  have:(i + 1) * e.size<=len * e.size:=Nat.mul_le_mul_right _ hi
  rw [Nat.add_mul] at this
  rw [List.getElem?_take,if_pos (by omega),List.getElem?_drop]
  rw [show lo * e.size + (i * e.size + j)=(lo + i) * e.size + j by rw [Nat.add_mul];omega]
  exact h3
 ·cases hy
theorem Gg {O:aM} {st:St} {loc:Nat->Loc} {w:World} (g:Good cx.eT X (aB O st loc w)) {e:Ty} {s:C} {ys:List (D e)} {p:Prop} {v:Value} (h:zV st e s=some (ys,p)) (hp:p)
  (hs:CR cx.eT (aB O st loc w) s v):Src cx.eT e ys (aB O st loc w).A w v:=by
 unfold zV at h
 split at h
 ·rename_i ys' hsrc
  cases h
  exact ug g hsrc hs
 ·split at h
  ·split at h
   ·rename_i n zs lo len hct
    cases h
    obtain ⟨hob,hr⟩:=AT (X:=X) hct hs
    have hor:=(g.obj _ _ hob).2
    have hyl:((zs.drop lo).take len).length=len:=by rw [List.length_take,List.length_drop];omega
    rcases hr hor with ⟨h0,a,c,hv⟩ | ⟨b,c,h1,hv⟩
    ·subst h0
     exact .inl ⟨by simp,a,c,hv⟩
    ·rcases hor with ⟨_,_,h2⟩ | ⟨b',vs,T,cap,h2,h3,hheap,hvs,hcap,_,he⟩
     ·exact absurd (h1.symm.trans h2) (by simp)
     ·have hbb:b=b':=by have h4:(loc n).bs = [b']:=h3;rw [h1] at h4;cases h4;rfl
      subst hbb
      have hle:zs.length * e.size<=vs.size:=by rw [hvs];exact Nat.mul_le_mul_right _ hcap
      obtain ⟨cs,hcs,k1,k2,k3⟩:=sL he hle
      refine .inr ⟨b,lo * e.size,c,(cs.drop (lo * e.size)).take (len * e.size),by rw [hyl];exact hv,?_,fun j u hj => ?_,U6 k2 lo len,fun u hu=>k3 u (List.mem_of_mem_drop (List.mem_of_mem_take hu))⟩
      ·rw [hyl,List.length_take,List.length_drop,k1]
       have:(lo + len) * e.size<=zs.length * e.size:=Nat.mul_le_mul_right _ hp
       rw [Nat.add_mul] at this
       omega
      ·rw [cell_of_row w b _ vs T (0,0) hheap]
       rw [List.getElem?_take] at hj
       split at hj
       ·rw [List.getElem?_drop,hcs,List.getElem?_take] at hj
        split at hj
        ·simpa using hj
        ·cases hj
       ·cases hj
   ·cases h
  ·cases h
theorem Gh (hok:TyOK P cx) {O:aM} {st:St} {loc:Nat->Loc} {w:World} (g:Good cx.eT X (aB O st loc w)) (hO:gv O w)
  {t t' ty:TypeId} {d s:C} {K:SV->St->VC} {vd vx:Value} (hd:CR cx.eT (aB O st loc w) d vd) (hs:CR cx.eT (aB O st loc w) s vx) (h:(Gf cx st t d s K).holds) :
  ∃sv v st' loc' w',(K sv st').holds/\st'.env=st.env/\Good cx.eT X (aB O st' loc' w')/\Tr (aB O st loc w) (aB O st' loc' w')/\eH cx.eT (aB O st' loc' w') sv v/\
   (Builtin.copy_ #[t,t'] ty #[vd,vx]).run P w = .ok v w':=by
 unfold Gf at h
 split at h
 case h_2=>exact h.elim
 rename_i e ht
 obtain ⟨te,ti,td,hu,hf⟩:=ia hok ht
 split at h
 case h_2=>exact h.elim
 rename_i n xs lo len ys p hone hct hcf
 obtain ⟨⟨hp,hle⟩,h⟩:=h
 have hsz:=Ty.oe hone
 obtain ⟨hob,hdst⟩:=AT (X:=X) hct hd
 have hn:=(g.obj n _ hob).1
 have hor:=(g.obj n _ hob).2
 have hsrc:=Gg g hcf hp hs
 have his:(P.info? te).map (·.size)=some 1:=by rw [hf.info];simp [hf.size,hsz]
 have hbig:xs.length<=aJ:=by
  rcases hor with ⟨rfl,_,_⟩ | ⟨_,_,_,_,_,_,_,_,_,h1,_⟩
  ·simp
  ·exact h1
 generalize hk:min ys.length len=k at h
 have hkr:IntKind.i64.min<=(k:Int)/\(k:Int)<=IntKind.i64.max:=vW (by omega)
 have none0:k=0->∀dp dc sp sl sc,vd = .slice dp len dc->vx = .slice sp sl sc->sl=ys.length->∃sv v st' loc' w',(K sv st').holds/\st'.env=st.env/\Good cx.eT X (aB O st' loc' w')/\Tr (aB O st loc w) (aB O st' loc' w')/\eH cx.eT (aB O st' loc' w') sv v/\
   (Builtin.copy_ #[t,t'] ty #[vd,vx]).run P w = .ok v w':=by
  intro hk0 dp dc sp sl sc e1 e2 e3
  subst hk0
  have hst:aB O (setObj st n (.bE e (xs.take lo++ys.take 0++xs.drop (lo + 0)))) loc w=aB O st loc w:=by
   have:look (setObj st n (.bE e (xs.take lo++ys.take 0++xs.drop (lo + 0)))).aK=look st.aK:=by
    funext m
    rw [ot]
    by_cases e1:n=m
    ·rw [if_pos e1,<-e1,hob];simp
    ·rw [if_neg e1]
   simp only [aB,this];rfl
  have hrun:=run_copy_none (P:=P) w t t' ty te dp sp len dc sl sc hu his (by rw [e3];exact hk)
  have hI:∀S:bN,CR cx.eT S (.d (.int .i64) ((0:Nat):Int)) (goInt 0):=fun S=>dG.2 ⟨rfl,hkr⟩
  refine ⟨.s (.one (.d (.int .i64) ((0:Nat):Int))),goInt 0,_,loc,w,h,rfl,by rw [hst];exact g,by rw [hst];exact Tr.refl _,hI (aB O (setObj st n (.bE e (xs.take lo++ys.take 0++xs.drop (lo + 0)))) loc w),?_⟩
  rw [e1,e2];exact hrun
 have hsl:∃sp sc,vx = .slice sp ys.length sc:=by
  rcases hsrc with ⟨rfl,a,c,hv⟩ | ⟨b,o,cap,cs,hv,_⟩
  ·exact ⟨a,c,by simpa using hv⟩
  ·exact ⟨_,_,hv⟩
 obtain ⟨sp,sc,hvx⟩:=hsl
 have hdl:∃dp dc,vd = .slice dp len dc:=by
  rcases hdst hor with ⟨rfl,a,c,hv⟩ | ⟨b,c,_,hv⟩
  ·exact ⟨a,c,hv⟩
  ·exact ⟨_,_,hv⟩
 obtain ⟨dp,dc,hvd⟩:=hdl
 by_cases hk0:k=0
 ·exact none0 hk0 dp dc sp _ sc hvd hvx rfl
 ·rcases hdst hor with ⟨h0,_⟩ | ⟨b,c,hb,hv⟩
  ·omega
  ·rcases hsrc with ⟨rfl,_⟩ | ⟨b2,o2,cap2,cs,hv2,gU,hcc,hrl,hone'⟩
   ·simp at hk;omega
   ·rcases hor with ⟨_,_,h2⟩ | ⟨b',vs,T,cap,h2,h3,hheap,hvs,hcap,_,he⟩
    ·exact absurd (hb.symm.trans h2) (by simp)
    ·have hbb:b=b':=by have h4:(loc n).bs = [b']:=h3;rw [hb] at h4;cases h4;rfl
     subst hbb
     rw [hsz,Nat.mul_one] at hv hvs
     rw [hsz,Nat.mul_one] at gU
     have hkl:(cs.take k).length=k:=by rw [List.length_take];omega
     have hfit:lo + (cs.take k).length<=vs.size:=by rw [hkl,hvs];omega
     have hrun:=run_copy_row (P:=P) w t t' ty te b lo len c ⟨b2,o2,none⟩ ys.length cap2 vs T (cs.take k) hu his hheap (by rw [hkl];exact hk.symm)
      (fun j u hj=>by
       rw [Addr.add_lit]
       rw [List.getElem?_take] at hj
       split at hj
       ·exact hcc j u hj
       ·cases hj) hfit (fun u hu=>hone' u (List.mem_of_mem_take hu))
     rw [hkl] at hrun
     have hst:=zT (X:=X) (cx:=cx) (oc':=.bE e (xs.take lo++ys.take k++xs.drop (lo + k))) (cs':=(vs.toList.take lo++cs.take k++vs.toList.drop (lo + k)).toArray) g hO hob h3 (by simp [bB]) rfl rfl
     have hxl:(xs.take lo++ys.take k++xs.drop (lo + k)).length=xs.length:=by
      simp only [List.length_append,List.length_take,List.length_drop];omega
     have hI:∀S:bN,CR cx.eT S (.d (.int .i64) (k:Int)) (goInt k):=fun S=>dG.2 ⟨rfl,hkr⟩
     refine ⟨.s (.one (.d (.int .i64) (k:Int))),goInt k,_,loc,_,h,rfl,hst.2 (.inr ⟨b,_,T,cap,by rw [hxl];exact h2,h3,setRow_heap w b vs _ T (0,0) hheap,?_,by rw [hxl];exact hcap,by rw [hxl];exact hbig,?_⟩),hst.1,hI (aB O (setObj st n (.bE e (xs.take lo++ys.take k++xs.drop (lo + k)))) loc (w.setRow b (vs.toList.take lo++cs.take k++vs.toList.drop (lo + k)).toArray)),?_⟩
     ·rw [hsz,Nat.mul_one]
      simp only [List.size_toArray,List.length_append,List.length_take,List.length_drop,Array.length_toList]
      rw [hkl] at hfit
      omega
     ·intro i y hy
      have hone1:∀{z:D e} {us:List Value} {A:aM} {w:World},R cx.eT e z A w us->∃u,us = [u]:=fun hr=>List.length_eq_one_iff.1 (by rw [hr.length,hsz])
      have tf:∀i',xs[i']?=some y->(i < lo\/lo + k<=i)->i'=i->∃us,R cx.eT e y (aB O (setObj st n (.bE e (xs.take lo++ys.take k++xs.drop (lo + k)))) loc (w.setRow b (vs.toList.take lo++cs.take k++vs.toList.drop (lo + k)).toArray)).A (w.setRow b (vs.toList.take lo++cs.take k++vs.toList.drop (lo + k)).toArray) us/\
        ∀j u,us[j]?=some u->(vs.toList.take lo++cs.take k++vs.toList.drop (lo + k)).toArray[i * e.size + j]?=some u:=by
       intro i' hx hr hi
       subst hi
       obtain ⟨us,r1,r2⟩:=he i' y hx
       refine ⟨us,r1.frame hst.1.cell,fun j u hj => ?_⟩
       obtain ⟨u0,rfl⟩:=hone1 r1
       have hj0:j=0:=by have:=bI hj;simp at this;exact this
       subst hj0
       have:=r2 0 u hj
       rw [hsz,Nat.mul_one] at this ⊢
       have hsp:=iz vs.toList (cs.take k) lo i' (by rw [Array.length_toList];exact hfit)
       rw [hkl] at hsp
       rw [List.getElem?_toArray,Nat.add_zero,hsp]
       rw [Nat.add_zero] at this
       rcases hr with hr | hr
       ·rw [if_pos hr,Array.getElem?_toList];exact this
       ·rw [if_neg (by omega),if_neg (by omega),Array.getElem?_toList];exact this
      by_cases c1:i < lo
      ·rw [List.append_assoc,List.getElem?_append,if_pos (by rw [List.length_take];omega),List.getElem?_take,if_pos c1] at hy
       exact tf i hy (.inl c1) rfl
      ·by_cases c2:i < lo + k
       ·rw [List.append_assoc,List.getElem?_append,if_neg (by rw [List.length_take];omega),List.getElem?_append,if_pos (by simp only [List.length_take];omega),List.getElem?_take] at hy
        simp only [List.length_take] at hy
        rw [show min lo xs.length=lo by omega] at hy
        rw [if_pos (by omega)] at hy
        obtain ⟨us,r1,r2⟩:=hrl _ y hy
        refine ⟨us,r1.frame hst.1.cell,fun j u hj => ?_⟩
        obtain ⟨u0,rfl⟩:=hone1 r1
        have hj0:j=0:=by have:=bI hj;simp at this;exact this
        subst hj0
        have:=r2 0 u hj
        rw [hsz,Nat.mul_one,Nat.add_zero] at this ⊢
        have hsp:=iz vs.toList (cs.take k) lo i (by rw [Array.length_toList];exact hfit)
        rw [hkl] at hsp
        rw [List.getElem?_toArray,hsp,if_neg c1,if_pos c2,List.getElem?_take,if_pos (by omega)]
        exact this
       ·rw [List.append_assoc,List.getElem?_append,if_neg (by rw [List.length_take];omega),List.getElem?_append,if_neg (by simp only [List.length_take];omega),List.getElem?_drop] at hy
        simp only [List.length_take] at hy
        rw [show lo + k + (i - min lo xs.length - min k ys.length)=i by omega] at hy
        exact tf i hy (.inr (by omega)) rfl
     ·rw [hv,hv2];exact hrun
end
end Go.Vg

namespace Go.Vg
open Go.RowKit
def wi (cx:Cx) (st:St) (x:Operand) (ty:TypeId) (K:SV->St->VC):VC:=
 match ev st.env x,look cx.τ ty with
 | .s (.one .jR),some (.slice e)=>match spot e with
  | some _=>K (.s (.one (.xd st.next .top))) (fresh st (.ext 0 (.slice e) []))
  | none => .ff
 | _,_ => .ff
def wj (cx:Cx) (st:St) (t:TypeId) (v:dE) (K:SV->St->VC):VC:=
 match look cx.τ t with
 | some (.slice e)=>match spot e,xV st e v,Nat.ble e.size 1000 with
  | some s,some cs,true=>match cs[s.off]?,mi e (cs.set s.off .jR) with
   | some (.bE m),some (y0,[])=>match look st.aK m with
    | some (.bE t' zs)=>match h:Ty.beq (.slice t') (.slice s.t) with
     | true=>K (.s (.one (.xd st.next .top))) (fresh (bL (bL st m) m) (.ext 0 (.slice e) [s.put y0 (cR h (a:=.slice t') zs)]))
     | false => .ff
    | _ => .ff
   | _,_ => .ff
  | _,_,_ => .ff
 | _ => .ff
def CH (cx:Cx) (st:St) (t:TypeId) (n m:Nat) (K:SV->St->VC):VC:=
 match look cx.τ t,look st.aK n,look st.aK m with
 | some (.slice e),some (.ext 0 (.slice e1) xs),some (.ext 0 (.slice e2) ys)=>match h1:Ty.beq (.slice e1) (.slice e),h2:Ty.beq (.slice e2) (.slice e),Nat.beq n m with
  | true,true,false => .and (0 < List.length ys/\List.length xs + List.length ys<=1000000000)
    (K (.s (.one (.xd st.next .top))) (fresh (bL (bL st n) m) (.ext 0 (.slice e) (cR h1 (a:=.slice e1) xs++cR h2 (a:=.slice e2) ys))))
  | _,_,_ => .ff
 | _,_,_ => .ff
def wk (st:St) (n:Nat) (i j:Nat) (ty:Ty) (v:dE) (K:SV->St->VC):VC:=
 match look st.aK n with
 | some (.ext 0 (.slice e) xs)=>match spot e with
  | some s=>match qq s.t v,Ty.beq s.t ty with
   | some z,true => .and (i < List.length xs/\j < (s.get (nth e xs i)).length) (K (.s (.one .any)) (setObj st n (.ext 0 (.slice e) (List.set xs i (s.put (nth e xs i) ((s.get (nth e xs i)).set j z))))))
   | _,_ => .ff
  | none => .ff
 | _ => .ff
section
variable {X:Ext} {P:Program} {cx:Cx}
theorem QT (st:St) (n m k:Nat) (oc:OC) (h:look (bL (bL st n) m).aK k=some oc):k≠n/\k≠m/\look st.aK k=some oc:=by
 simp only [bL] at h
 rw [mz] at h
 split at h
 ·cases h
 ·rename_i h1
  rw [mz] at h
  split at h
  ·cases h
  ·rename_i h2;exact ⟨fun e=>h2 e.symm,fun e=>h1 e.symm,h⟩
theorem ui {O:aM} {st:St} {loc:Nat->Loc} {w w':World} (g:Good cx.eT X (aB O st loc w)) (hO:gv O w) (n m:Nat) {oc:OC} {l:Loc}
  (hos:w'.os=w.os) (hout:w'.output=w.output) (hsize:w.heap.size<=w'.heap.size)
  (hlo:∀k oc',(k=n\/k=m)->look st.aK k=some oc'->oc'.lo=0)
  (hb:∀b,b < w.heap.size->(∀k oc',(k=n\/k=m)->look st.aK k=some oc'->b∉(loc k).bs)->w'.heap[b]?=w.heap[b]?)
  (hl:∀b∈l.bs,(∃k oc',(k=n\/k=m)/\look st.aK k=some oc'/\b∈(loc k).bs)\/w.heap.size<=b) :
  Tr (aB O st loc w) (aB O (fresh (bL (bL st n) m) oc) (cI loc st.next l) w')/\
   (OR cx.eT X (aB O (fresh (bL (bL st n) m) oc) (cI loc st.next l) w') l oc->Good cx.eT X (aB O (fresh (bL (bL st n) m) oc) (cI loc st.next l) w')):=by
 have hob:∀k oc',(aB O (fresh (bL (bL st n) m) oc) (cI loc st.next l) w').ob k=some oc'->(k=st.next/\oc'=oc)\/(k≠st.next/\k≠n/\k≠m/\look st.aK k=some oc'):=by
  intro k oc' h
  rw [my] at h
  split at h
  ·rename_i e;cases h;exact .inl ⟨e.symm,rfl⟩
  ·rename_i e;obtain ⟨h1,h2,h3⟩:=QT st n m k oc' h;exact .inr ⟨fun e'=>e e'.symm,h1,h2,h3⟩
 have hloc:∀k,k≠st.next->(cI loc st.next l) k=loc k:=fun k h=>by simp only [cI];rw [if_neg (fun e=>h e.symm)]
 have hlocn:(cI loc st.next l) st.next=l:=by simp [cI]
 have hkeep:∀k oc',k≠n->k≠m->look st.aK k=some oc'->∀b∈(loc k).bs,w'.heap[b]?=w.heap[b]?:=by
  intro k oc' h1 h2 h3 b hbk
  refine hb b ((g.obj k oc' h3).2.inside b hbk) fun k' oc'' hk' hk'' hbk' => ?_
  have:=g.apart k k' oc' oc'' b h3 hk'' hbk hbk'
  rcases hk' with rfl | rfl <;> contradiction
 have hnewA:∀b o,b < w.heap.size->b∈l.bs->(aB O st loc w).A b o:=by
  intro b o hlt hbl
  rcases hl b hbl with ⟨k,oc',hk,h1,h2⟩ | h
  ·exact .inr ⟨k,oc',h1,h2,by rw [hlo k oc' hk h1];exact Nat.zero_le _⟩
  ·omega
 have ht:Tr (aB O st loc w) (aB O (fresh (bL (bL st n) m) oc) (cI loc st.next l) w'):={
  O:=rfl
  next:=by show st.next<=st.next + 1;omega
  os:=hos
  output:=hout
  size:=hsize
  own:=fun b h=>by
   obtain ⟨k,oc',h1,h2⟩:=h
   rcases hob k oc' h1 with ⟨rfl,rfl⟩ | ⟨e,e1,e2,h3⟩
   ·rw [show (aB O _ (cI loc st.next l) w').loc st.next=l from hlocn] at h2
    rcases hl b h2 with ⟨k',oc'',_,h4,h5⟩ | h
    ·exact .inl ⟨k',oc'',h4,h5⟩
    ·exact .inr h
   ·rw [show (aB O _ (cI loc st.next l) w').loc k=loc k from hloc k e] at h2
    exact .inl ⟨k,oc',h3,h2⟩
  cell:=fun b o v ha hcell=>by
   have hlt:=World.block_lt_of_cell? w _ hcell
   simp only at hlt
   constructor
   ·have:w'.heap[b]?=w.heap[b]?:=hb b hlt fun k oc' hk h1 h2=>ha (.inr ⟨k,oc',h1,h2,by rw [hlo k oc' hk h1];exact Nat.zero_le _⟩)
    show w'.cell? _=_
    rw [World.cell?_of_block (w:=w) (w':=w') (a:=⟨b,o,none⟩) this];exact hcell
   ·rintro (h | ⟨k,oc',h1,h2,h3⟩)
    ·exact ha (.inl h)
    ·rcases hob k oc' h1 with ⟨rfl,rfl⟩ | ⟨e,e1,e2,h4⟩
     ·rw [show (aB O _ (cI loc st.next l) w').loc st.next=l from hlocn] at h2
      exact ha (hnewA b o hlt h2)
     ·rw [show (aB O _ (cI loc st.next l) w').loc k=loc k from hloc k e] at h2
      exact ha (.inr ⟨k,oc',h4,h2,h3⟩)
  block:=fun b hlt ho=>hb b hlt fun k oc' _ h1 h2=>ho ⟨k,oc',h1,h2⟩
  loc:=fun k hlt _=>nW (hloc k (by simp [aB] at hlt;omega))
  kind:=fun k oc' hlt h=>by
   rcases hob k oc' h with ⟨rfl,rfl⟩ | ⟨e,e1,e2,h3⟩
   ·simp [aB] at hlt
   ·refine ⟨oc',h3,?_⟩
    have:(aB O (fresh (bL (bL st n) m) oc) (cI loc st.next l) w').loc k=(aB O st loc w).loc k:=hloc k e
    rw [this]
    cases oc' <;> simp [bB]}
 refine ⟨ht,fun hor=>⟨fun k oc' h => ?_,fun m1 m2 oc1 oc2 b h1 h2 h3 h4 => ?_,fun k oc' b off h1 h2 => ?_,g.oh.tr ht⟩⟩
 ·rcases hob k oc' h with ⟨rfl,rfl⟩ | ⟨e,e1,e2,h3⟩
  ·exact ⟨by simp [aB,fresh,bL],by rw [show (aB O _ (cI loc st.next l) w').loc st.next=l from hlocn];exact hor⟩
  ·obtain ⟨k1,k2⟩:=g.obj k oc' h3
   refine ⟨by simp only [aB,fresh,bL] at k1 ⊢;omega,?_⟩
   rw [show (aB O _ (cI loc st.next l) w').loc k=(aB O st loc w).loc k from hloc k e]
   exact k2.tr ht (hkeep k oc' e1 e2 h3)
 ·have key:∀k oc',k≠n->k≠m->look st.aK k=some oc'->b∈l.bs->b∈(loc k).bs->False:=by
   intro k oc' e1 e2 hk hbl hbk
   rcases hl b hbl with ⟨k',oc'',hk',h5,h6⟩ | h
   ·have:=g.apart k k' oc' oc'' b hk h5 hbk h6
    rcases hk' with rfl | rfl <;> contradiction
   ·have:=(g.obj k oc' hk).2.inside b hbk
    simp only [aB] at this;omega
  rcases hob m1 oc1 h1 with ⟨rfl,rfl⟩ | ⟨e,e1,e2,h5⟩ <;> rcases hob m2 oc2 h2 with ⟨rfl,rfl⟩ | ⟨e',e1',e2',h6⟩
  ·rfl
  ·rw [show (aB O _ (cI loc st.next l) w').loc st.next=l from hlocn] at h3
   rw [show (aB O _ (cI loc st.next l) w').loc m2=loc m2 from hloc m2 e'] at h4
   exact (key m2 oc2 e1' e2' h6 h3 h4).elim
  ·rw [show (aB O _ (cI loc st.next l) w').loc st.next=l from hlocn] at h4
   rw [show (aB O _ (cI loc st.next l) w').loc m1=loc m1 from hloc m1 e] at h3
   exact (key m1 oc1 e1 e2 h5 h4 h3).elim
  ·rw [show (aB O _ (cI loc st.next l) w').loc m1=loc m1 from hloc m1 e] at h3
   rw [show (aB O _ (cI loc st.next l) w').loc m2=loc m2 from hloc m2 e'] at h4
   exact g.apart m1 m2 oc1 oc2 b h5 h6 h3 h4
 ·rcases hob k oc' h1 with ⟨rfl,rfl⟩ | ⟨e,e1,e2,h3⟩
  ·rw [show (aB O _ (cI loc st.next l) w').loc st.next=l from hlocn] at h2
   rcases hl b h2 with ⟨k',oc'',_,h5,h6⟩ | h
   ·exact g.out k' oc'' b off h5 h6
   ·intro hA;have:=hO _ _ hA;omega
  ·rw [show (aB O _ (cI loc st.next l) w').loc k=loc k from hloc k e] at h2
   exact g.out k oc' b off h3 h2
theorem Fp {O:aM} {st:St} {loc:Nat->Loc} {w:World} {a:Act} (g:Good cx.eT X (aB O st loc w)) (hO:gv O w) (he:jg cx.eT (aB O st loc w) st.env a)
  {x:Operand} {ty:TypeId} {K:SV->St->VC} (h:(wi cx st x ty K).holds) :
  ∃sv st' loc',(K sv st').holds/\st'.env=st.env/\Good cx.eT X (aB O st' loc' w)/\Tr (aB O st loc w) (aB O st' loc' w)/\eH cx.eT (aB O st' loc' w) sv (a.eval x):=by
 have hx:=mw he x
 unfold wi at h
 split at h
 ·rename_i e hl _
  rw [hl] at hx
  split at h
  ·rename_i s hs
   obtain ⟨tr1,g1⟩:=gW (oc:=.ext 0 (.slice e) []) (l:=⟨.tuple #[.slice none 0 0],[]⟩) g hO (Below.refl _ w) (by simp)
   have g1:=g1 (X.deep.2 ⟨s,hs, .slice none 0 0,[],rfl, .inl ⟨rfl,rfl,⟨none,rfl⟩,rfl⟩⟩)
   refine ⟨_,_,_,h,rfl,g1,tr1,?_⟩
   rw [show a.eval x=_ from hx]
   refine ⟨by simp [aB,fresh],fun t' x' hy => ?_⟩
   exact ⟨[],by simp [aB,cI]⟩
  ·exact h.elim
 ·exact h.elim
theorem Gi:∀{e:Ty} {s:nB e} {y:D e} {ys:List (D s.t)} {A A':aM} {w w':World} {us:List Value} {h h0:Value} {eT:TypeId},spot e=some s->R eT e y A w (us.set s.off h0)->
  R eT (.slice s.t) ys A' w' [h]->us[s.off]?=some h->R eT e (s.put y ys) A' w' us:=by
 intro e
 induction e with
 | slice t _=>
  intro s y ys A A' w w' us h h0 eT hs hr hy hu
  obtain ⟨_,_,rfl⟩:=nc hs
  obtain ⟨v,hv,h2⟩:=hr
  have hl:us.length=1:=by have:=congrArg List.length hv;simpa using this
  match us,hl with
  | [u],_=>simp at hu;subst hu;exact hy
 | prod a b iha ihb=>
  intro s y ys A A' w w' us h h0 eT hs hr hy hu
  obtain ⟨u1,u2,hv,r1,r2⟩:=hr
  have hl1:=r1.length
  rcases oD hs with ⟨s',h1,hb,rfl⟩ | ⟨s',ha,h1,rfl⟩
  ·have hlt:=th h1
   simp only at hv hu
   have e1:us.set s'.off h0=(us.take a.size).set s'.off h0++us.drop a.size:=by
    conv=>lhs;rw [<-List.take_append_drop a.size us]
    have hul:s'.off < us.length:=bI hu
    rw [List.set_append_left _ _ (by rw [List.length_take];omega)]
   have hlen:us.length=a.size + u2.length:=by have:=congrArg List.length hv;simp only [List.length_set,List.length_append] at this;omega
   rw [e1] at hv
   obtain ⟨k1,k2⟩:=List.append_inj hv (by rw [List.length_set,List.length_take];omega)
   subst k1 k2
   refine ⟨us.take a.size,us.drop a.size,(List.take_append_drop _ _).symm,iha h1 r1 hy ?_,r2.of_flat (qC hb)⟩
   rw [List.getElem?_take,if_pos hlt];exact hu
  ·have hlt:=th h1
   simp only at hv hu
   have hul:=bI hu
   have e1:us.set (a.size + s'.off) h0=us.take a.size++(us.drop a.size).set s'.off h0:=by
    conv=>lhs;rw [<-List.take_append_drop a.size us]
    rw [List.set_append_right _ _ (by rw [List.length_take];omega)]
    congr 2
    rw [List.length_take];omega
   rw [e1] at hv
   obtain ⟨k1,k2⟩:=List.append_inj hv (by rw [List.length_take];omega)
   subst k1 k2
   refine ⟨us.take a.size,us.drop a.size,(List.take_append_drop _ _).symm,r1.of_flat (qC ha),ihb h1 r2 hy ?_⟩
   rw [List.getElem?_drop];exact hu
 | _=>intro s y ys A A' w w' us h h0 eT hs;cases hs
theorem Gj (cx:Cx) {t te:TypeId} {e:Ty} {ti:TypeInfo} {td:TypeDesc} (hu:P.underlying t=some (.slice te)) (hf:Fit P te e ti td) {v:Value} (hv:v.cells.toList.length=e.size) (hp:0 < e.size) (hbig:e.size<=16777216) (w:World) :
  (Instr.buildSlice t 1 #[(0,v)]).run P w = .ok (.slice (some ⟨w.heap.size,0,none⟩) 1 1) (w.alloc (.cells v.cells te)):=by
 obtain ⟨z,hz,hzr⟩:=hf.zero
 have hzs:z.cells.size=e.size:=by
  rw [<-Array.length_toList]
  exact (lL (S:=⟨fun _ _=>False,fun _=>none,fun _=>default,0,w⟩) (cx:=cx) hzr).length.symm.trans (jE e)
 have hfill:∀cells:Array Value,cells.size=e.size->Instr.fill (fun i=>some (i * e.size,e.size)) cells [(0,v)]=some v.cells:=by
  intro cells hcs
  rw [Gd e.size [(0,v)] 0 cells (fun i p hp=>by
    cases i with
    | zero=>simp at hp;subst hp;rfl
    | succ i=>simp at hp)
   (fun p hp=>by simp at hp;subst hp;rw [<-Array.length_toList];exact hv)
   (by simp [hcs])]
  simp
 have hfl:=hfill ((Array.range (1 * e.size)).map fun k=>z.cells[k % z.cells.size]!) (by simp)
 have h0:e.size≠0:=by omega
 have hsz':¬ (e.size > 2 ^ 24):=by omega
 have hfl':=hfill ((Array.range (e.size)).map fun k=>z.cells[k % z.cells.size]!) (by simp)
 simp [Instr.buildSlice,run_underlying hu,gz hf,h0,hsz',newRow,zeroValue,typeInfo,hf.info,hz]
 rw [hfl']
 simp
theorem eP.set {eT:TypeId} {S:bN} {cs:List C} {vs:List Value} (h:eP eT S cs vs):∀{k:Nat} {c:C} {v:Value},CR eT S c v->v.oneCell'=true->eP eT S (cs.set k c) (vs.set k v):=by
 induction h with
 | nil=>intro k c v _ _;exact .nil
 | cons h1 h2 h3 ih=>
  intro k c v hc hv
  cases k with
  | zero=>exact .cons hc hv h3
  | succ k=>exact .cons h1 h2 (ih hc hv)
theorem AU (hok:TyOK P cx) {O:aM} {st:St} {loc:Nat->Loc} {w:World} (g:Good cx.eT X (aB O st loc w)) (hO:gv O w)
  {t:TypeId} {v:dE} {u:Value} {K:SV->St->VC} (hv:jt cx.eT (aB O st loc w) v u) (h:(wj cx st t v K).holds) :
  ∃sv val st' loc' w',(K sv st').holds/\st'.env=st.env/\Below w.heap.size w w'/\Good cx.eT X (aB O st' loc' w')/\Tr (aB O st loc w) (aB O st' loc' w')/\eH cx.eT (aB O st' loc' w') sv val/\
   (Instr.buildSlice t 1 #[(0,u)]).run P w = .ok val w':=by
 unfold wj at h
 split at h
 case h_2=>exact h.elim
 rename_i e ht
 obtain ⟨te,ti,td,hu,hf⟩:=ia hok ht
 split at h
 case h_2=>exact h.elim
 rename_i s cs hs hfl hsm
 have hsm:=Nat.le_of_ble_eq_true hsm
 obtain ⟨us,hus,hcr,hul⟩:=rX g hfl hv
 split at h
 case h_2=>exact h.elim
 rename_i m y0 hm hp
 split at h
 case h_2=>exact h.elim
 rename_i t' zs hob
 split at h
 case h_2=>exact h.elim
 rename_i hb
 have htt:t'=s.t:=by have:=Ty.eq_of_beq hb;cases this;rfl
 subst htt
 rw [gB] at h
 obtain ⟨hd,hget,hch,_⟩:=hcr.get hm
 have hdv:=hch.2 _ _ hob
 have hset:=hcr.set (k:=s.off) (c:=.jR) (v:=.slice none 0 0) rfl rfl
 obtain ⟨us1,us2,he12,hr0,hnil⟩:=De hp hset
 cases hnil
 rw [List.append_nil] at he12
 subst he12
 have hoff:=th hs
 have hrun:=Gj (P:=P) cx hu hf (v:=u) (by rw [hus];exact hul) (by omega) (by omega) w
 have hbel:Below w.heap.size w (w.alloc (.cells u.cells te)):=(Below.refl _ w).alloc (Nat.le_refl _) _
 have hheap:(w.alloc (.cells u.cells te)).heap[w.heap.size]?=some (.cells u.cells te (0,0)):=heap_alloc_new w _
 have hlo:∀k oc',(k=m\/k=m)->look st.aK k=some oc'->oc'.lo=0:=by
  intro k oc' hk hl
  have:k=m:=by rcases hk with h | h <;> exact h
  subst this;rw [hob] at hl;cases hl;rfl
 have fin:∀(co:Option Nat),(∀c,co=some c->c∈(loc m).bs)->(∀c,co=some c->c≠w.heap.size/\∃vs T,(w.alloc (.cells u.cells te)).heap[c]?=some (.cells vs T (0,0)))->
   R 0 (.slice s.t) zs (oP co) (w.alloc (.cells u.cells te)) [hd]->
   ∃sv val st' loc' w',(K sv st').holds/\st'.env=st.env/\Below w.heap.size w w'/\Good cx.eT X (aB O st' loc' w')/\Tr (aB O st loc w) (aB O st' loc' w')/\eH cx.eT (aB O st' loc' w') sv val/\
    (Instr.buildSlice t 1 #[(0,u)]).run P w = .ok val w':=by
  intro co hco1 hco2 hr
  obtain ⟨tr,gd⟩:=ui (w':=w.alloc (.cells u.cells te)) (oc:=.ext 0 (.slice e) [s.put y0 zs]) (l:=⟨.tuple #[.slice (some ⟨w.heap.size,0,none⟩) 1 1,hd],w.heap.size :: [co].filterMap id⟩) g hO m m hbel.os hbel.output hbel.size hlo
   (fun b hlt _=>hbel.block b hlt) (fun b hbm=>by
    rcases List.mem_cons.1 hbm with rfl | hbm
    ·exact .inr (Nat.le_refl _)
    ·obtain ⟨i,hi⟩:=fQ.1 hbm
     cases i with
     | zero=>simp at hi;exact .inl ⟨m,_, .inl rfl,hob,hco1 b hi⟩
     | succ i=>simp at hi)
  have gd:=gd (X.deep.2 ⟨s,hs,_,[hd],rfl, .inr ⟨w.heap.size,u.cells,te,1,[co],rfl,rfl,hheap,by rw [<-Array.length_toList,hus,hul];omega,Nat.le_refl _,by unfold aJ;simp,{
    hl:=rfl
    cl:=rfl
    inj:=fun i j c hi hj=>by
     have:=bI hi;have:=bI hj
     simp at *;omega
    AH:=fun i c hi=>by
     cases i with
     | zero=>simp at hi;exact hco2 c hi
     | succ i=>simp at hi
    row:=fun i y hy=>by
     cases i with
     | succ i=>simp at hy
     | zero=>
      simp at hy
      subst hy
      refine ⟨co,hd,us,rfl,rfl,hget,Gi hs (KG hs hr0) hr hget,fun j x hj => ?_⟩
      rw [Nat.zero_mul,Nat.zero_add,<-Array.getElem?_toList,hus];exact hj}⟩⟩)
  refine ⟨_,_,_,_,_,h,rfl,hbel,gd,tr,⟨by simp [aB,fresh,bL],fun t' x' hy=>⟨[hd],by simp [aB,cI]⟩⟩,hrun⟩
 rcases (g.obj m _ hob).2 with ⟨rfl,⟨a,ha⟩,_⟩ | ⟨c,vs,T,cap,h1,h2,h3,h4,h5,h6,h7⟩
 ·refine fin none (fun c hc=>by cases hc) (fun c hc=>by cases hc) ⟨hd,rfl,by simp, .inl ⟨rfl,a,0,hdv.trans ha⟩⟩
 ·have hclt:c < w.heap.size:=(g.obj m _ hob).2.inside c (by rw [h2];simp)
  have hch:(w.alloc (.cells u.cells te)).heap[c]?=some (.cells vs T (0,0)):=(hbel.block c hclt).trans h3
  refine fin (some c) (fun c' hc=>by cases hc;show c∈(loc m).bs;rw [show (loc m).bs = [c] from h2];simp) (fun c' hc=>by cases hc;exact ⟨by omega,vs,T,hch⟩) ⟨hd,rfl,h6, .inr ⟨c,0,cap,hdv.trans h1,h5,fun i y hy => ?_⟩⟩
  obtain ⟨us',r1,r2⟩:=h7 i y hy
  refine ⟨us',ki (rf hs).1 r1,fun j x hj=>⟨?_,by simp [oP]⟩⟩
  rw [cell_of_row _ c _ vs T (0,0) hch,Nat.zero_add];exact r2 j x hj
theorem Dj {e:Ty} {s:nB e} {ys:List (D e)} {w:World} {b:Nat} {cs:List (Option Nat)} {hs:List Value} {vs:Array Value} (h:kg e s ys w b cs hs vs) (hl:ys.length * e.size<=vs.size) :
  ∃news:List Value,news.length=ys.length * e.size/\(∀(k:Nat) (u:Value),news[k]?=some u->vs[k]?=some u)/\(∀(k:Nat) (u:Value),k < ys.length * e.size->vs[k]?=some u->news[k]?=some u)/\∀u∈news,u.oneCell'=true:=by
 refine ⟨vs.toList.take (ys.length * e.size),by simp;omega,fun k u hk => ?_,fun k u hk hu => ?_,fun u hu => ?_⟩
 ·rw [List.getElem?_take] at hk
  split at hk
  ·simpa using hk
  ·cases hk
 ·rw [List.getElem?_take,if_pos hk];simpa using hu
 ·obtain ⟨k,hk,rfl⟩:=List.getElem_of_mem hu
  have hlen:(vs.toList.take (ys.length * e.size)).length=ys.length * e.size:=by simp;omega
  have hk':k < ys.length * e.size:=by omega
  have hpos:0 < e.size:=by
   rcases Nat.eq_zero_or_pos e.size with h0 | h0
   ·rw [h0] at hk';omega
   ·exact h0
  have hi:k / e.size < ys.length:=Nat.div_lt_of_lt_mul (by rw [Nat.mul_comm];exact hk')
  obtain ⟨c,hh,us,_,_,_,h1,h2⟩:=h.row _ _ (List.getElem?_eq_getElem hi)
  have hjlt:k % e.size < us.length:=by rw [h1.length];exact Nat.mod_lt _ hpos
  have:=h2 _ _ (List.getElem?_eq_getElem hjlt)
  rw [show k / e.size * e.size + k % e.size=k from by rw [Nat.mul_comm];exact Nat.div_add_mod k e.size] at this
  have h3:(vs.toList.take (ys.length * e.size))[k]?=some us[k % e.size]:=by rw [List.getElem?_take,if_pos hk'];simpa using this
  rw [List.getElem?_eq_getElem hk] at h3
  rw [Option.some.inj h3]
  exact h1.l7 _ (List.getElem_mem hjlt)
theorem kg.join {e:Ty} {s:nB e} {xs ys:List (D e)} {w w':World} {b1 b2 b':Nat} {cs1 cs2:List (Option Nat)} {hs1 hs2:List Value} {vs1 vs2 vs':Array Value}
  (h1:kg e s xs w b1 cs1 hs1 vs1) (h2:kg e s ys w b2 cs2 hs2 vs2)
  (hd:∀c:Nat,(∃i:Nat,cs1[i]?=some (some c))->(∃j:Nat,cs2[j]?=some (some c))->False)
  (hb:∀c:Nat,((∃i:Nat,cs1[i]?=some (some c))\/(∃j:Nat,cs2[j]?=some (some c)))->c≠b'/\w'.heap[c]?=w.heap[c]?)
  (hv1:∀k u,k < xs.length * e.size->vs1[k]?=some u->vs'[k]?=some u)
  (hv2:∀k u,k < ys.length * e.size->vs2[k]?=some u->vs'[xs.length * e.size + k]?=some u) :
  kg e s (xs++ys) w' b' (cs1++cs2) (hs1++hs2) vs':=by
 have get:∀(i:Nat) (c:Nat),(cs1++cs2)[i]?=some (some c)->(i < xs.length/\cs1[i]?=some (some c))\/(xs.length<=i/\cs2[i - xs.length]?=some (some c)):=by
  intro i c hi
  rw [List.getElem?_append,h1.cl] at hi
  split at hi
  ·rename_i hlt;exact .inl ⟨hlt,hi⟩
  ·rename_i hlt;exact .inr ⟨by omega,hi⟩
 refine ⟨by simp [h1.hl,h2.hl],by simp [h1.cl,h2.cl],fun i j c hi hj => ?_,fun i c hi => ?_,fun i y hy => ?_⟩
 ·rcases get i c hi with ⟨a1,a2⟩ | ⟨a1,a2⟩ <;> rcases get j c hj with ⟨b1,b2⟩ | ⟨b1,b2⟩
  ·exact h1.inj i j c a2 b2
  ·exact (hd c ⟨_,a2⟩ ⟨_,b2⟩).elim
  ·exact (hd c ⟨_,b2⟩ ⟨_,a2⟩).elim
  ·have:=h2.inj _ _ c a2 b2;omega
 ·rcases get i c hi with ⟨a1,a2⟩ | ⟨a1,a2⟩
  ·obtain ⟨k1,k2⟩:=hb c (.inl ⟨_,a2⟩)
   rw [k2];exact ⟨k1,(h1.AH _ c a2).2⟩
  ·obtain ⟨k1,k2⟩:=hb c (.inr ⟨_,a2⟩)
   rw [k2];exact ⟨k1,(h2.AH _ c a2).2⟩
 ·rw [List.getElem?_append] at hy
  split at hy
  ·rename_i hlt
   obtain ⟨c,k,us,k1,k2,k3,k4,k5⟩:=h1.row i y hy
   refine ⟨c,k,us,by rw [List.getElem?_append,h1.cl,if_pos hlt];exact k1,by rw [List.getElem?_append,h1.hl,if_pos hlt];exact k2,k3,k4.frame (rU fun b e'=>(hb b (.inl ⟨i,by rw [k1,e']⟩)).2),fun j u hj => ?_⟩
   refine hv1 _ u ?_ (k5 j u hj)
   have:=bI hj
   rw [k4.length] at this
   have:(i + 1) * e.size<=xs.length * e.size:=Nat.mul_le_mul_right _ hlt
   rw [Nat.add_mul] at this
   omega
  ·rename_i hlt
   have hil:=bI hy
   obtain ⟨c,k,us,k1,k2,k3,k4,k5⟩:=h2.row _ y hy
   refine ⟨c,k,us,by rw [List.getElem?_append,h1.cl,if_neg hlt];exact k1,by rw [List.getElem?_append,h1.hl,if_neg hlt];exact k2,k3,k4.frame (rU fun b e'=>(hb b (.inr ⟨_,by rw [k1,e']⟩)).2),fun j u hj => ?_⟩
   have e1:i * e.size + j=xs.length * e.size + ((i - xs.length) * e.size + j):=by
    rw [<-Nat.add_assoc,<-Nat.add_mul,show xs.length + (i - xs.length)=i from by omega]
   rw [e1]
   refine hv2 _ u ?_ (k5 j u hj)
   have:=bI hj
   rw [k4.length] at this
   have:(i - xs.length + 1) * e.size<=ys.length * e.size:=Nat.mul_le_mul_right _ hil
   rw [Nat.add_mul] at this
   omega
theorem Fq (hok:TyOK P cx) {O:aM} {st:St} {loc:Nat->Loc} {w:World} (g:Good cx.eT X (aB O st loc w)) (hO:gv O w)
  {t ty:TypeId} {n m:Nat} {K:SV->St->VC} {vs vx:Value} (hs:CR cx.eT (aB O st loc w) (.xd n .top) vs) (hx:CR cx.eT (aB O st loc w) (.xd m .top) vx) (h:(CH cx st t n m K).holds) :
  ∃sv v st' loc' w',(K sv st').holds/\st'.env=st.env/\Good cx.eT X (aB O st' loc' w')/\Tr (aB O st loc w) (aB O st' loc' w')/\eH cx.eT (aB O st' loc' w') sv v/\
   (Builtin.append_ #[t,t] ty #[vs,vx]).run P w = .ok v w':=by
 unfold CH at h
 split at h
 case h_2=>exact h.elim
 rename_i e e1 xs e2 ys ht hob1 hob2
 obtain ⟨te,ti,td,hu,hf⟩:=ia hok ht
 obtain ⟨z,hz,hzr⟩:=hf.zero
 have hzs:z.cells.size=e.size:=by
  rw [<-Array.length_toList]
  exact (lL (S:=aB O st loc w) (cx:=cx) hzr).length.symm.trans (jE e)
 split at h
 case h_2=>exact h.elim
 rename_i hb1 hb2 hnm
 have hnm:n≠m:=fun e'=>by subst e';rw [Nat.beq_refl] at hnm;cases hnm
 have he1:e1=e:=by have:=Ty.eq_of_beq hb1;cases this;rfl
 subst he1
 have he2:e2=e1:=by have:=Ty.eq_of_beq hb2;cases this;rfl
 subst he2
 rw [gB,gB] at h
 obtain ⟨⟨hpos,hle⟩,h⟩:=h
 have hd1:=X.deep.1 (g.obj n _ hob1).2
 have hd2:=X.deep.1 (g.obj m _ hob2).2
 obtain ⟨_,s,hee,hsp⟩:=rV hd1
 cases hee
 obtain ⟨d2⟩:=tj hsp hd2 hpos
 have hvx:vx=d2.top:=by
  obtain ⟨hs',hl⟩:=hx.2 _ _ hob2
  have hl:=d2.lv.symm.trans hl
  simp at hl
  exact hl.1.symm
 have hvx:vx = .slice (some ⟨d2.b,0,none⟩) (List.length ys) d2.cap:=hvx.trans d2.tv
 have hys:List.length ys * e2.size<=d2.vs.size:=by rw [d2.size];exact Nat.mul_le_mul_right _ d2.fit
 obtain ⟨news,hn1,hn2,hn3,hn4⟩:=Dj d2.rows hys
 have hnews:∀j u,news[j]?=some u->w.cell? ((⟨d2.b,0,none⟩:Addr).add j)=some u:=fun j u hj=>by
  rw [Addr.add_lit,Nat.zero_add,cell_of_row w d2.b _ d2.vs d2.T (0,0) d2.heap];exact hn2 j u hj
 have hbytes:(List.length xs + List.length ys) * ti.bytes<=140737488355328:=by have:=Nat.mul_le_mul hle hf.bytes;omega
 have hm2:∀c:Nat,(∃j:Nat,d2.cs[j]?=some (some c))->c∈(loc m).bs:=fun c hc=>by
  rw [show (loc m).bs=_ from d2.lb];exact List.mem_cons_of_mem _ (fQ.2 hc)
 have hlo:∀k oc',(k=n\/k=m)->look st.aK k=some oc'->oc'.lo=0:=by
  intro k oc' hk hl
  rcases hk with rfl | rfl
  ·rw [hob1] at hl;cases hl;rfl
  ·rw [hob2] at hl;cases hl;rfl
 have fin:∀(w':World) (b' cap' b1:Nat) (vs' vs1:Array Value) (T':TypeId) (cs1:List (Option Nat)) (hs1:List Value),kg e2 s xs w b1 cs1 hs1 vs1->
   w'.os=w.os->w'.output=w.output->w.heap.size<=w'.heap.size->(∀c:Nat,(∃i:Nat,cs1[i]?=some (some c))->c∈(loc n).bs)->
   ((b'∈(loc n).bs/\∀c:Nat,(∃i:Nat,cs1[i]?=some (some c))->c≠b')\/w.heap.size<=b')->(∀b,b < w.heap.size->b≠b'->w'.heap[b]?=w.heap[b]?)->
   w'.heap[b']?=some (.cells vs' T' (0,0))->vs'.size=cap' * e2.size->List.length xs + List.length ys<=cap'->
   (∀k u,k < List.length xs * e2.size->vs1[k]?=some u->vs'[k]?=some u)->(∀k u,k < List.length ys * e2.size->d2.vs[k]?=some u->vs'[List.length xs * e2.size + k]?=some u)->
   (Builtin.append_ #[t,t] ty #[vs,vx]).run P w = .ok (.slice (some ⟨b',0,none⟩) (List.length xs + List.length ys) cap') w'->
   ∃sv v st' loc' w',(K sv st').holds/\st'.env=st.env/\Good cx.eT X (aB O st' loc' w')/\Tr (aB O st loc w) (aB O st' loc' w')/\eH cx.eT (aB O st' loc' w') sv v/\
    (Builtin.append_ #[t,t] ty #[vs,vx]).run P w = .ok v w':=by
  intro w' b' cap' b1 vs' vs1 T' cs1 hs1 hrows hos hout hsize hin1 hb' hoth hheap' hsz' hcap' hv1 hv2 hrun
  have hin1':∀c:Nat,(∃i:Nat,cs1[i]?=some (some c))->c < w.heap.size:=fun c hc=>(g.obj n _ hob1).2.inside c (hin1 c hc)
  have hin2':∀c:Nat,(∃i:Nat,d2.cs[i]?=some (some c))->c < w.heap.size:=fun c hc=>(g.obj m _ hob2).2.inside c (hm2 c hc)
  have hne:∀c:Nat,((∃i:Nat,cs1[i]?=some (some c))\/(∃j:Nat,d2.cs[j]?=some (some c)))->c≠b'/\w'.heap[c]?=w.heap[c]?:=by
   intro c hc
   have hclt:c < w.heap.size:=hc.elim (hin1' c) (hin2' c)
   have hcb:c≠b':=by
    rcases hb' with ⟨k1,k2⟩ | k1
    ·rcases hc with hc | hc
     ·exact k2 c hc
     ·intro e'
      subst e'
      exact hnm (g.apart n m _ _ c hob1 hob2 k1 (hm2 c hc))
    ·omega
   exact ⟨hcb,hoth c hclt hcb⟩
  have hj:=hrows.join d2.rows (w':=w') (b':=b') (vs':=vs') (fun c h1 h2=>hnm (g.apart n m _ _ c hob1 hob2 (hin1 c h1) (hm2 c h2))) hne hv1 hv2
  obtain ⟨tr,gd⟩:=ui (w':=w') (oc:=.ext 0 (.slice e2) (xs++ys)) (l:=⟨.tuple (Value.slice (some ⟨b',0,none⟩) (List.length xs + List.length ys) cap' :: (hs1++d2.hs)).toArray,b' :: (cs1++d2.cs).filterMap id⟩) g hO n m hos hout hsize hlo
   (fun b hlt hb=>by
    refine hoth b hlt fun e' => ?_
    subst e'
    rcases hb' with ⟨k1,_⟩ | k1
    ·exact hb n _ (.inl rfl) hob1 k1
    ·omega)
   (fun b hbm=>by
    rcases List.mem_cons.1 hbm with rfl | hbm
    ·rcases hb' with ⟨k1,_⟩ | k1
     ·exact .inl ⟨n,_, .inl rfl,hob1,k1⟩
     ·exact .inr k1
    ·rw [List.filterMap_append] at hbm
     rcases List.mem_append.1 hbm with hbm | hbm
     ·exact .inl ⟨n,_, .inl rfl,hob1,hin1 b (fQ.1 hbm)⟩
     ·exact .inl ⟨m,_, .inr rfl,hob2,hm2 b (fQ.1 hbm)⟩)
  have gd:=gd (X.deep.2 ⟨s,hsp,_,_,rfl, .inr ⟨b',vs',T',cap',cs1++d2.cs,by rw [List.length_append],rfl,hheap',hsz',by rw [List.length_append];exact hcap',by rw [List.length_append];unfold aJ;omega,hj⟩⟩)
  exact ⟨_,_,_,_,_,h,rfl,gd,tr,⟨by simp [aB,fresh,bL],fun t' x' hy=>⟨hs1++d2.hs,by simp [aB,cI]⟩⟩,hrun⟩
 subst hvx
 obtain ⟨s',hsp',top,hs',hl1,hcase⟩:=hd1
 rw [hsp] at hsp'
 cases hsp'
 have hvs:vs=top:=by
  obtain ⟨hs'',hl⟩:=hs.2 _ _ hob1
  have hl:=hl1.symm.trans hl
  simp at hl
  exact hl.1.symm
 have hbel:∀(cells:Array Value),Below w.heap.size w (w.drew.alloc (.cells cells te)):=fun _=>(Below.refl _ w).drew.alloc (Nat.le_refl _) _
 rcases hcase with ⟨hx0,hh0,⟨a0,ha0⟩,hbs0⟩ | ⟨b1,vs1,T1,cap1,cs1,ht1,hbs1,hheap1,hsz1,hfit1,hbig1,hrows1⟩
 ·have hvs0:vs = .slice a0 0 0:=hvs.trans ha0
  subst hvs0
  subst hx0
  have hrun:=ng (P:=P) (w:=w) (t:=t) (ty:=ty) hu hf.info hz a0 (a:=⟨d2.b,0,none⟩) (n:=List.length ys) (c:=d2.cap) (news:=news) (by rw [hn1,hf.size]) hnews hpos (by simp at hle;omega)
   (by have:=hbytes;simp only [List.length_nil,Nat.zero_add] at this;omega)
  have hc':List.length ys<=grownCap w (List.length ys) 0 te:=grownCap_ge w _ _ _
  have hB:=hbel (news.toArray++Builtin.zeroCells z.cells (grownCap w (List.length ys) 0 te - List.length ys))
  refine fin _ w.heap.size (grownCap w (List.length ys) 0 te) 0 _ #[] te [] [] ⟨rfl,rfl,fun i j c hi=>by simp at hi,fun i c hi=>by simp at hi,fun i y hy=>by simp at hy⟩ hB.os hB.output hB.size (fun c ⟨i,hi⟩=>by simp at hi)
   (.inr (Nat.le_refl _)) (fun b hlt _=>hB.block b hlt) (heap_alloc_new w.drew _) ?_ (by simpa using hc') (fun k u hk=>by simp at hk) (fun k u hk hu => ?_) (by rw [hrun];simp)
  ·simp only [Array.size_append,List.size_toArray,size_zeroCells,hzs,hn1,<-Nat.add_mul]
   congr 1;omega
  ·have:=hn3 k u hk hu
   simp only [List.length_nil,Nat.zero_mul,Nat.zero_add]
   rw [Array.getElem?_append,if_pos (by simpa using bI this)]
   simpa using this
 ·have hvs0:vs = .slice (some ⟨b1,0,none⟩) (List.length xs) cap1:=hvs.trans ht1
  subst hvs0
  have hxs:List.length xs * e2.size<=vs1.size:=by rw [hsz1];exact Nat.mul_le_mul_right _ hfit1
  obtain ⟨olds,ho1,ho2,ho3,_⟩:=Dj hrows1 hxs
  have hmem1:∀c:Nat,(∃i:Nat,cs1[i]?=some (some c))->c∈(loc n).bs:=fun c hc=>by
   rw [show (loc n).bs=_ from hbs1];exact List.mem_cons_of_mem _ (fQ.2 hc)
  by_cases hroom:List.length xs + List.length ys<=cap1
  ·have hmul:(List.length xs + List.length ys) * e2.size<=cap1 * e2.size:=Nat.mul_le_mul_right _ hroom
   rw [Nat.add_mul] at hmul
   have hfit:List.length xs * ti.size + news.length<=vs1.size:=by rw [hf.size,hsz1,hn1];exact hmul
   have hrun:=qt (P:=P) (ty:=ty) hu hf.info hheap1 (a:=⟨d2.b,0,none⟩) (c:=d2.cap) (by rw [hn1,hf.size]) hnews hn4 hroom hfit
   rw [hf.size] at hrun hfit
   generalize hcur':(vs1.toList.take (List.length xs * e2.size)++news++vs1.toList.drop (List.length xs * e2.size + news.length)).toArray=cur' at hrun
   have hget:∀k:Nat,cur'[k]?=if k < List.length xs * e2.size then vs1[k]? else if k < List.length xs * e2.size + news.length then news[k - List.length xs * e2.size]? else vs1[k]?:=by
    intro k
    rw [<-hcur',List.getElem?_toArray,iz _ _ _ _ (by simpa using hfit)]
    simp
   have hsz':cur'.size=vs1.size:=by
    rw [<-hcur'];simp only [List.size_toArray,List.length_append,List.length_take,List.length_drop,Array.length_toList];omega
   refine fin (w.setRow b1 cur') b1 cap1 b1 cur' vs1 T1 cs1 hs' hrows1 rfl rfl (by simp [World.setRow]) hmem1 (.inl ⟨by rw [show (loc n).bs=_ from hbs1];simp,fun c ⟨i,hi⟩=>(hrows1.AH i c hi).1⟩)
    (fun b _ hne=>setRow_other w b1 b cur' (fun e'=>hne e')) (setRow_heap w b1 vs1 cur' T1 (0,0) hheap1) (by rw [hsz',hsz1]) hroom (fun k u hk hu => ?_) (fun k u hk hu => ?_) hrun
   ·rw [hget,if_pos hk];exact hu
   ·rw [hget,if_neg (by omega),if_pos (by rw [hn1];omega),Nat.add_sub_cancel_left];exact hn3 k u hk hu
  ·have hrun:=run_append_grow (P:=P) w t ty te ti z hu hf.info hz ⟨b1,0,none⟩ (List.length xs) cap1 olds (by rw [ho1,hf.size])
    (fun j u hj=>by rw [Addr.add_lit,Nat.zero_add,cell_of_row w b1 _ vs1 T1 (0,0) hheap1];exact ho2 j u hj)
    ⟨d2.b,0,none⟩ (List.length ys) d2.cap news (by rw [hn1,hf.size]) hnews (by omega) (by omega) (growslice_fits (by omega) hbytes)
   have hc':List.length xs + List.length ys<=grownCap w (List.length xs + List.length ys) cap1 te:=grownCap_ge w _ _ _
   have hB:=hbel (olds.toArray++news.toArray++Builtin.zeroCells z.cells (grownCap w (List.length xs + List.length ys) cap1 te - (List.length xs + List.length ys)))
   refine fin _ w.heap.size (grownCap w (List.length xs + List.length ys) cap1 te) b1 _ vs1 te cs1 hs' hrows1 hB.os hB.output hB.size hmem1 (.inr (Nat.le_refl _)) (fun b hlt _=>hB.block b hlt) (heap_alloc_new w.drew _) ?_ hc'
    (fun k u hk hu => ?_) (fun k u hk hu => ?_) hrun
   ·simp only [Array.size_append,List.size_toArray,size_zeroCells,hzs,hn1,ho1,<-Nat.add_mul]
    congr 1;omega
   ·have:=ho3 k u hk hu
    rw [Array.getElem?_append,if_pos (by simp;have:=bI this;omega),Array.getElem?_append,if_pos (by simpa using bI this)]
    simpa using this
   ·have:=hn3 k u hk hu
    have hlt:=bI this
    rw [Array.getElem?_append,if_pos (by simp [ho1];omega),Array.getElem?_append,if_neg (by simp [ho1])]
    simp only [List.size_toArray,ho1,Nat.add_sub_cancel_left]
    simpa using this
theorem N4 {O:aM} {st:St} {loc:Nat->Loc} {w:World} {n b:Nat} {oc oc':OC} {cs':Array Value} (g:Good cx.eT X (aB O st loc w)) (hO:gv O w)
  (hob:look st.aK n=some oc) (ib:b∈(loc n).bs) (hk:bB (loc n) (loc n) oc oc') (h0:oc.lo=0) (h0':oc'.lo=0) :
  Tr (aB O st loc w) (aB O (setObj st n oc') loc (w.setRow b cs'))/\
   (OR cx.eT X (aB O (setObj st n oc') loc (w.setRow b cs')) (loc n) oc'->Good cx.eT X (aB O (setObj st n oc') loc (w.setRow b cs'))):=by
 have hsz:(w.setRow b cs').heap.size=w.heap.size:=by simp [World.setRow]
 refine pw (S:=aB O st loc w) (S':=aB O (setObj st n oc') loc (w.setRow b cs')) (n:=n) (oc:=oc) (oc':=oc') (l':=loc n) g rfl hO hob
  (fun m=>ot st n m oc') (fun m => ?_) rfl (fun _=>nW rfl) hk rfl rfl (by simp [aB,hsz]) ?_ ?_ ?_
 ·show loc m=_
  by_cases e:n=m
  ·rw [if_pos e,e]
  ·rw [if_neg e];rfl
 ·intro b' _ hb'
  exact setRow_other w b b' cs' (fun e=>hb' (by simp only [aB];rw [e];exact ib))
 ·intro b' o v _ ho;rw [h0] at ho;omega
 ·intro b' hb';exact .inl ⟨hb',by omega⟩
theorem AV {O:aM} {st:St} {loc:Nat->Loc} {w:World} (g:Good cx.eT X (aB O st loc w)) (hO:gv O w)
  {t:TypeId} {ty:Ty} {ti:TypeInfo} {td:TypeDesc} (hf:Fit P t ty ti td) {n i j:Nat} {v:dE} {K:SV->St->VC} {vx vv:Value} (hx:CR cx.eT (aB O st loc w) (.xd n (.cell i j)) vx) (hv:jt cx.eT (aB O st loc w) v vv)
  (h:(wk st n i j ty v K).holds) :
  ∃st' loc' w',(K (.s (.one .any)) st').holds/\st'.env=st.env/\Good cx.eT X (aB O st' loc' w')/\Tr (aB O st loc w) (aB O st' loc' w')/\(Instr.storeAt t vx vv).run P w = .ok () w':=by
 unfold wk at h
 split at h
 case h_2=>exact h.elim
 rename_i e xs hob
 split at h
 case h_2=>exact h.elim
 rename_i s hsp
 split at h
 case h_2=>exact h.elim
 rename_i z hz hb
 have:=Ty.eq_of_beq hb
 subst this
 obtain ⟨⟨hi,hj⟩,h⟩:=h
 obtain ⟨hpl,hsz1⟩:=rf hsp
 have hgi:=List.getElem?_eq_getElem hi
 rw [fO hgi] at h hj
 have hd:=X.deep.1 (g.obj n _ hob).2
 obtain ⟨d⟩:=tj hsp hd (by omega)
 obtain ⟨top,hs',b,o,k0,c0,hl,hget,hvx⟩:=hx.2 _ _ hob
 have hl:=d.lv.symm.trans hl
 simp at hl
 obtain ⟨_,rfl⟩:=hl
 obtain ⟨c,hh,us,k1,k2,k3,k4,k5⟩:=d.rows.row i _ hgi
 rw [hget] at k2
 cases k2
 have hsl:=F1 hsp k4 k3
 obtain ⟨v1,hv1,hbig,hsl2⟩:=hsl
 simp at hv1
 subst hv1
 rcases hsl2 with ⟨h0,_⟩ | ⟨b2,o2,cap,hv2,hcap,hrow⟩
 ·rw [h0] at hj;simp at hj
 simp at hv2
 obtain ⟨⟨rfl,rfl⟩,rfl,rfl⟩:=hv2
 have hgj:=List.getElem?_eq_getElem hj
 obtain ⟨u1,hu1,hr1⟩:=hrow j _ hgj
 rw [hsz1,Nat.mul_one] at hr1
 have hu1l:u1.length=1:=by rw [hu1.length,hsz1]
 have hcb:c=some b:=by
  match u1,hu1l with
  | [x],_=>have:=(hr1 0 x rfl).2;unfold oP at this;exact (Classical.not_not.1 this).symm
 subst hcb
 obtain ⟨hbb,vc,Tc,hheap⟩:=d.rows.AH i b k1
 have hvr:=VR.cells (lK hz hv)
 have hul:vv.cells.toList.length=1:=by rw [hvr.length,hsz1]
 have cellAt:∀i' y,(s.get xs[i])[i']?=some y->∃us',R 0 s.t y (oP (some b)) w us'/\us'.length=1/\∀u,us'[0]?=some u->vc[o + i']?=some u:=by
  intro i' y hy
  obtain ⟨us',r1,r2⟩:=hrow i' y hy
  refine ⟨us',r1,by rw [r1.length,hsz1],fun u hu => ?_⟩
  have:w.cell? ⟨b,o + i' * s.t.size + 0,none⟩=some u:=(r2 0 u hu).1
  rw [hsz1,Nat.mul_one,Nat.add_zero,cell_of_row w b _ vc Tc (0,0) hheap] at this
  exact this
 have hfit:o + j + vv.cells.toList.length<=vc.size:=by
  obtain ⟨us',_,r2,r3⟩:=cellAt j _ hgj
  have:=(Array.getElem?_eq_some_iff.1 (r3 _ (List.getElem?_eq_getElem (show 0 < us'.length by omega)))).1
  omega
 have ib:b∈(loc n).bs:=by rw [show (loc n).bs=_ from d.lb];exact List.mem_cons_of_mem _ (fQ.2 ⟨i,k1⟩)
 subst hvx
 have hrun:=run_store hf (b:=b) (o:=o + j) rfl hvr.length hvr.l7 hheap hfit
 generalize hvc':(vc.toList.take (o + j)++vv.cells.toList++vc.toList.drop (o + j + vv.cells.toList.length)).toArray=vc' at hrun
 have hget':∀k:Nat,vc'[k]?=if k < o + j then vc[k]? else if k < o + j + vv.cells.toList.length then vv.cells.toList[k - (o + j)]? else vc[k]?:=by
  intro k
  rw [<-hvc',List.getElem?_toArray,iz _ _ _ _ (by simpa using hfit)]
  simp
 have hheap':=setRow_heap w b vc vc' Tc (0,0) hheap
 have hst:=N4 (oc':=.ext 0 (.slice e) (List.set xs i (s.put xs[i] ((s.get xs[i]).set j z)))) (cs':=vc') g hO hob ib (by simp [bB]) rfl rfl
 have hother:∀b',b'≠b->(w.setRow b vc').heap[b']?=w.heap[b']?:=fun b' hne=>setRow_other w b b' vc' hne
 have hnewrow:R 0 (.slice s.t) ((s.get xs[i]).set j z) (oP (some b)) (w.setRow b vc') [.slice (some ⟨b,o,none⟩) (s.get xs[i]).length c0]:=by
  refine ⟨_,rfl,by rw [List.length_set];exact hbig, .inr ⟨b,o,c0,by rw [List.length_set],by rw [List.length_set];exact hcap,fun i' y hy => ?_⟩⟩
  by_cases e':j=i'
  ·subst e'
   rw [List.getElem?_set_self hj] at hy
   cases hy
   refine ⟨vv.cells.toList,ki hpl hvr,fun q u hq=>⟨?_,by simp [oP]⟩⟩
   have hq':=bI hq
   rw [hsz1,Nat.mul_one,cell_of_row _ b _ vc' Tc (0,0) hheap',hget',if_neg (by omega),if_pos (by omega),show o + j + q - (o + j)=q from by omega]
   exact hq
  ·rw [List.getElem?_set_ne e'] at hy
   obtain ⟨us',r1,r2,r3⟩:=cellAt i' y hy
   refine ⟨us',ki hpl r1,fun q u hq=>⟨?_,by simp [oP]⟩⟩
   have hq':=bI hq
   have hq0:q=0:=by omega
   subst hq0
   rw [hsz1,Nat.mul_one,Nat.add_zero,cell_of_row _ b _ vc' Tc (0,0) hheap',hget']
   rw [hul]
   have:=r3 u hq
   by_cases h1:o + i' < o + j
   ·rw [if_pos h1];exact this
   ·rw [if_neg h1,if_neg (by omega)];exact this
 refine ⟨_,_,_,h,rfl,hst.2 (X.deep.2 ⟨s,hsp,d.top,d.hs,d.lv, .inr ⟨d.b,d.vs,d.T,d.cap,d.cs,by rw [List.length_set];exact d.tv,d.lb,?_,d.size,by rw [List.length_set];exact d.fit,by rw [List.length_set];exact d.aJ,?_⟩⟩),hst.1,hrun⟩
 ·exact (hother d.b (fun e'=>hbb e'.symm)).trans d.heap
 ·refine ⟨by rw [List.length_set];exact d.rows.hl,by rw [List.length_set];exact d.rows.cl,d.rows.inj,fun i' c' hi' => ?_,fun i' y hy => ?_⟩
  ·refine ⟨(d.rows.AH i' c' hi').1,?_⟩
   by_cases e':c'=b
   ·subst e';exact ⟨vc',Tc,hheap'⟩
   ·obtain ⟨vs',T',hh'⟩:=(d.rows.AH i' c' hi').2
    exact ⟨vs',T',(hother c' e').trans hh'⟩
  ·by_cases e':i=i'
   ·subst e'
    rw [List.getElem?_set_self hi] at hy
    cases hy
    exact ⟨some b,_,us,k1,hget,k3,QK hsp k4 k3 hnewrow,k5⟩
   ·rw [List.getElem?_set_ne e'] at hy
    obtain ⟨c',h',us',q1,q2,q3,q4,q5⟩:=d.rows.row i' y hy
    refine ⟨c',h',us',q1,q2,q3,q4.frame (rU fun b' eb=>hother b' fun eb' => ?_),q5⟩
    subst eb'
    exact e' (d.rows.inj i i' b' k1 (by rw [q1,eb]))
end
end Go.Vg

namespace Go.Vg
open Go.RowKit
def fU (e:Ty):List (D (iW e))->List UInt8->Bool
 | [],_=>false
 | y :: r,k=>if y.1=k then true else fU e r k
def oX (e:Ty):List (D (iW e))->List UInt8->D e
 | [],_=>bO e
 | y :: r,k=>if y.1=k then y.2.1 else oX e r k
def jh (e:Ty):List (D (iW e))->List UInt8->D e->Int->List (D (iW e))
 | [],k,v,c=>[(k,v,c,())]
 | y :: r,k,v,c=>if y.1=k then (k,v,y.2.2) :: r else y :: jh e r k v c
def jG (e:Ty):List (D (iW e))->List UInt8->List (D (iW e))
 | [],_=>[]
 | y :: r,k=>if y.1=k then r else y :: jG e r k
def pA (e:Ty) (es:List (D (iW e))) (k:List UInt8) (c:Int):Int:=if fU e es k=true then c else c + 1
def vH (e:Ty):List (D (iW e))->Int->D (iW e)
 | [],_=>bO (iW e)
 | y :: r,s=>if y.2.2.1=s then y else vH e r s
def qD (e:Ty):List (D (iW e))->Int->Bool
 | [],_=>false
 | y :: r,s=>if y.2.2.1=s then true else qD e r s
def jq (e:Ty) (es:List (D (iW e))) (seen:List Int):List (D (iW e)):=es.filter fun y => !(seen.contains y.2.2.1)
def oY (l:List Int):Int:=l.getLastD 0
def rk (cx:Cx) (st:St) (t:TypeId) (c:C) (K:(e:Ty)->Nat->D (jD e)->VC):VC:=
 match c with
 | .eZ n=>match look cx.qc t with
  | some (_,te)=>match look cx.τ te,look st.aK n with
   | some e,some (.ext 1 t' x)=>match h:Ty.beq t' (jD e),e.one with
    | true,false=>K e n (cR h x)
    | _,_ => .ff
   | _,_ => .ff
  | none => .ff
 | _ => .ff
def U7:Ty->Option Ty
 | .prod (.slice (.prod _ (.prod e _))) _=>some e
 | _=>none
def AW (st:St) (c:C) (K:(e:Ty)->Nat->List C->List Int->Int->D (jD e)->VC):VC:=
 match c with
 | .eZ k=>match look st.aK k with
  | some (.iter [.eZ n] seen cl)=>match look st.aK n with
   | some (.ext 1 t' x)=>match U7 t' with
    | some e=>match h:Ty.beq t' (jD e) with
     | true=>K e k [.eZ n] seen cl (cR h x)
     | false => .ff
    | none => .ff
   | _ => .ff
  | _ => .ff
 | _ => .ff
def N5 (st:St) (c:C) (K:SV->St->VC):VC:=
 AW st c fun e k cs seen cl d => .and (d.2.1=cl) (.both
  (.imp (jq e d.1 seen = []) (K (.nx [.one (.lit false)]) st))
  (.all (D (iW e)) fun y => .imp (y∈jq e d.1 seen) (K (.nx [.one (.lit true), .one (.d .str y.1), .one (.d e y.2.1)]) (setObj st k (.iter cs (seen++[y.2.2.1]) cl)))))
def AX (cx:Cx) (st:St) (o:Oper) (K:SV->St->VC):Option VC:=
 match o.op with
 | .makeMap t none=>some (match look cx.qc t with
  | some (_,te)=>match look cx.τ te with
   | some e=>match e.fE with
    | true=>K (.s (.one (.eZ st.next))) (fresh st (.ext 1 (jD e) ([],0,())))
    | false => .ff
   | none => .ff
  | none => .ff)
 | .lookup t m x true=>some (rk cx st t (eJ st.env m) fun e _ d=>match vF .str (eJ st.env x) with
  | some k=>K (.nx [.one (.d e (oX e d.1 k)), .one (.d .bool (fU e d.1 k))]) st
  | none => .ff)
 | .mapUpdate t m x v=>some (rk cx st t (eJ st.env m) fun e n d=>match vF .str (eJ st.env x),qq e (qz st.env v) with
  | some k,some y => .and (d.1.length < aJ) (K (.s (.one .any)) (setObj st n (.ext 1 (jD e) (jh e d.1 k y d.2.1,pA e d.1 k d.2.1,()))))
  | _,_ => .ff)
 | .range t m=>some (rk cx st t (eJ st.env m) fun _ n d=>K (.s (.one (.eZ st.next))) (fresh st (.iter [.eZ n] [] d.2.1)))
 | .next it false=>some (N5 st (eJ st.env it) K)
 | .entry it=>some (AW st (eJ st.env it) fun e _ _ seen cl d => .and (d.2.1=cl) (.and (seen≠[]) (.and (qD e d.1 (oY seen)=true)
   (K (.nx [.one (.d .str (vH e d.1 (oY seen)).1), .one (.d e (vH e d.1 (oY seen)).2.1)]) st))))
 | .call c=>match c.callee with
  | .builtin .delete=>match c.args.toList,c.argTypes.toList with
   | [m,x],t :: _=>some (rk cx st t (eJ st.env m) fun e n d=>match vF .str (eJ st.env x) with
    | some k=>K (.s (.one .any)) (setObj st n (.ext 1 (jD e) (jG e d.1 k,d.2.1,())))
    | none => .ff)
   | _,_=>some .ff
  | .builtin .len=>match c.args.toList,c.argTypes.toList with
   | [x],[t]=>match look cx.qc t with
    | some _=>some (rk cx st t (eJ st.env x) fun _ _ d=>K (.s (.one (.d (.int .i64) (d.1.length:Int)))) st)
    | none=>none
   | _,_=>none
  | _=>none
 | _=>none
theorem tq {e:Ty} {e1 e2:TypeId} {x:D e} {A A':aM} {w w':World} {v:Value} (hs:e.fE=true) (h:VR e1 e x A w v):VR e2 e x A' w' v:=by
 unfold VR at h ⊢
 by_cases c:e.one=true
 ·rw [if_pos c] at h ⊢;exact ki hs h
 ·rw [if_neg c] at h ⊢;obtain ⟨cs,h1,h2⟩:=h;exact ⟨cs,h1,ki hs h2⟩
theorem zH.to {e:Ty} (hs:e.fE=true) {y:D (iW e)} {m:MapEntry} {w w':World} (h:zH e y m w):zH e y m w':=⟨h.key,tq hs h.val,h.born⟩
theorem jo.to {e:Ty} (hs:e.fE=true) {w w':World}:∀{x:List (D (iW e))} {ms:List MapEntry},jo e x ms w->jo e x ms w'
 | [],[],_=>trivial
 | _ :: _,_ :: _,⟨h1,h2⟩=>⟨h1.to hs,h2.to hs⟩
 | [],_ :: _,h=>h.elim
 | _ :: _,[],h=>h.elim
theorem jo.len {e:Ty} {w:World}:∀{x:List (D (iW e))} {ms:List MapEntry},jo e x ms w->x.length=ms.length
 | [],[],_=>rfl
 | _ :: _,_ :: _,⟨_,h2⟩=>by simp [h2.len]
 | [],_ :: _,h=>h.elim
 | _ :: _,[],h=>h.elim
theorem sJ.inside {t:Ty} {x:D t} {l:Loc} {w:World} (h:sJ t x l w):∀b∈l.bs,b < w.heap.size:=by
 obtain ⟨e,_,b,es,fC,hm⟩:=h
 intro b' hb'
 rw [hm.bs] at hb'
 simp at hb'
 subst hb'
 exact (Array.getElem?_eq_some_iff.1 hm.heap).1
theorem sJ.frame {t:Ty} {x:D t} {l:Loc} {w w':World} (h:sJ t x l w) (hb:∀b∈l.bs,w'.heap[b]?=w.heap[b]?):sJ t x l w':=by
 obtain ⟨e,ht,b,es,fC,hm⟩:=h
 exact ⟨e,ht,b,es,fC,hm.fE,hm.lv,hm.bs,by rw [hb b (by rw [hm.bs];simp)];exact hm.heap,hm.fC,hm.sH.to hm.fE,hm.aJ,hm.tf⟩
theorem Tb (a b:List UInt8):((⟨a.toArray⟩:ByteArray) == ⟨b.toArray⟩)=decide (a=b):=by
 rw [Bool.eq_iff_iff,Go.MapKept.bytes_beq]
 simp
theorem rZ {e:Ty} {w:World} {k:List UInt8} (hk:k.length<=aJ):∀{x:List (D (iW e))} {ms:List MapEntry} (i:Nat),jo e x ms w->
  (fU e x k=false/\oX e x k=bO e/\Instr.findNow .string (.string ⟨k.toArray⟩) ms i=some none/\(∀v c,jh e x k v c=x++[(k,v,c,())])/\jG e x k=x)\/
  (fU e x k=true/\∃j m,ms[j]?=some m/\Instr.findNow .string (.string ⟨k.toArray⟩) ms i=some (some (i + j,m.val))/\VR 0 e (oX e x k) SK w m.val/\m.key = .string ⟨k.toArray⟩/\
   (∀v u c,VR 0 e v SK w u->jo e (jh e x k v c) (ms.set j {m with key:=.string ⟨k.toArray⟩,val:=u}) w)/\(∀v c,(jh e x k v c).length=x.length)/\(∀v c,∀y∈jh e x k v c,∃y'∈x,y.2.2.1=y'.2.2.1)/\
   jo e (jG e x k) (ms.eraseIdx j) w/\(∀y∈jG e x k,y∈x)/\(jG e x k).length<=x.length)
 | [],[],i,_ => .inl ⟨rfl,rfl,rfl,fun _ _=>rfl,rfl⟩
 | y :: r,m :: ms,i,⟨h1,h2⟩=>by
  have hkey:Instr.sameNow .string (.string ⟨k.toArray⟩) m.key=some (decide (y.1=k)):=by
   rw [h1.key.1]
   show some _=_
   rw [Tb]
   congr 1
   rw [Bool.eq_iff_iff];simp [eq_comm]
  by_cases c:y.1=k
  ·right
   refine ⟨by simp [fU,c],0,m,rfl,by simp [Instr.findNow,hkey,c],by simp [oX,c];exact h1.val,by rw [h1.key.1,c],fun v u cc hv => ?_,fun v cc => ?_,fun v cc y' hy' => ?_,?_,fun y' hy' => ?_,?_⟩
   ·rw [jh,if_pos c];exact ⟨⟨⟨rfl,hk⟩,hv,h1.born⟩,h2⟩
   ·rw [jh,if_pos c];rfl
   ·rw [jh,if_pos c] at hy'
    rcases List.mem_cons.1 hy' with rfl | hy'
    ·exact ⟨y,by simp,rfl⟩
    ·exact ⟨y',by simp [hy'],rfl⟩
   ·rw [jG,if_pos c];exact h2
   ·rw [jG,if_pos c] at hy';simp [hy']
   ·rw [jG,if_pos c];simp
  ·rcases rZ hk (i + 1) h2 with ⟨k1,k2,k3,k4,k5⟩ | ⟨k1,j,m',k2,k3,k4,k5,k6,k7,k8,k9,k10,k11⟩
   ·left
    refine ⟨by simp [fU,c,k1],by simp [oX,c,k2],by simp [Instr.findNow,hkey,c,k3],fun v cc=>by simp [jh,c,k4],by simp [jG,c,k5]⟩
   ·right
    refine ⟨by simp [fU,c,k1],j + 1,m',by simpa using k2,by simp [Instr.findNow,hkey,c,k3];omega,by simpa [oX,c] using k4,k5,fun v u cc hv => ?_,fun v cc => ?_,fun v cc y' hy' => ?_,?_,fun y' hy' => ?_,?_⟩
    ·rw [jh,if_neg c];exact ⟨h1,k6 v u cc hv⟩
    ·rw [jh,if_neg c];simp [k7]
    ·rw [jh,if_neg c] at hy'
     rcases List.mem_cons.1 hy' with rfl | hy'
     ·exact ⟨y',by simp,rfl⟩
     ·obtain ⟨y2,h3,h4⟩:=k8 v cc y' hy'
      exact ⟨y2,by simp [h3],h4⟩
    ·rw [jG,if_neg c];exact ⟨h1,k9⟩
    ·rw [jG,if_neg c] at hy'
     rcases List.mem_cons.1 hy' with rfl | hy'
     ·simp
     ·simp [k10 y' hy']
    ·rw [jG,if_neg c];simp;omega
 | [],_ :: _,_,h=>h.elim
 | _ :: _,[],_,h=>h.elim
theorem jo.snoc {e:Ty} {w:World} {y:D (iW e)} {m:MapEntry} (hy:zH e y m w):∀{x:List (D (iW e))} {ms:List MapEntry},jo e x ms w->jo e (x++[y]) (ms++[m]) w
 | [],[],_=>⟨hy,trivial⟩
 | _ :: _,_ :: _,⟨h1,h2⟩=>⟨h1,h2.snoc hy⟩
 | [],_ :: _,h=>h.elim
 | _ :: _,[],h=>h.elim
section
variable {X:Ext} {P:Program} {cx:Cx}
theorem Dl {O:aM} {st:St} {loc:Nat->Loc} {w w':World} {n b:Nat} {oc oc':OC} (g:Good cx.eT X (aB O st loc w)) (hO:gv O w)
  (hob:look st.aK n=some oc) (ib:(loc n).bs = [b]) (hk:bB (loc n) (loc n) oc oc') (h0:oc.lo=0) (h0':oc'.lo=0) (hos:w'.os=w.os) (hout:w'.output=w.output) (hsz:w'.heap.size=w.heap.size)
  (hoth:∀b',b'≠b->w'.heap[b']?=w.heap[b']?) :
  Tr (aB O st loc w) (aB O (setObj st n oc') loc w')/\
   (OR cx.eT X (aB O (setObj st n oc') loc w') (loc n) oc'->Good cx.eT X (aB O (setObj st n oc') loc w')):=by
 refine pw (S:=aB O st loc w) (S':=aB O (setObj st n oc') loc w') (n:=n) (oc:=oc) (oc':=oc') (l':=loc n) g rfl hO hob
  (fun m=>ot st n m oc') (fun m => ?_) rfl (fun _=>nW rfl) hk hos hout (by simp [aB,hsz]) ?_ ?_ ?_
 ·show loc m=_
  by_cases e:n=m
  ·rw [if_pos e,e]
  ·rw [if_neg e];rfl
 ·intro b' _ hb'
  exact hoth b' (fun e=>hb' (by simp only [aB];rw [ib,e];simp))
 ·intro b' o v _ ho;rw [h0] at ho;omega
 ·intro b' hb';exact .inl ⟨hb',by omega⟩
structure SO (cx:Cx) (P:Program) (S:bN) (st:St) (t:TypeId) (v:Value) (e:Ty) (n:Nat) (d:D (jD e)) where
 kt:TypeId
 te:TypeId
 b:Nat
 es:Array MapEntry
 fC:Nat
 jm:P.underlying t=some (.map kt te)
 key:P.underlying kt=some .string
 fit:look cx.τ te=some e
 one:e.one=false
 ob:S.ob n=some (.ext 1 (jD e) d)
 val:v = .map (some b)
 md:FV e d (S.loc n) S.w b es fC
 zero:∃i cs,P.info? te=some i/\i.zero=some (.agg cs)
theorem KM {e:Ty} {x:D (jD e)} {l:Loc} {w:World} (h:sJ (jD e) x l w):∃b es fC,FV e x l w b es fC:=by
 obtain ⟨e',he,h⟩:=h
 have:e=e':=by injection he with h1 _;injection h1 with h1;injection h1 with _ h1;injection h1
 subst this
 exact h
theorem oZ (hok:TyOK P cx) {O:aM} {st:St} {loc:Nat->Loc} {w:World} (g:Good cx.eT X (aB O st loc w)) {t:TypeId} {c:C} {v:Value} {K:(e:Ty)->Nat->D (jD e)->VC} (hc:CR cx.eT (aB O st loc w) c v)
  (h:(rk cx st t c K).holds):∃e n d,(K e n d).holds/\Nonempty (SO cx P (aB O st loc w) st t v e n d):=by
 unfold rk at h
 split at h
 case h_2=>exact h.elim
 rename_i n
 split at h
 case h_2=>exact h.elim
 rename_i kt te hm
 obtain ⟨h1,h2,h3⟩:=hok.qc _ _ _ hm
 split at h
 case h_2=>exact h.elim
 rename_i e t' x hte hob
 split at h
 case h_2=>exact h.elim
 rename_i hb ho
 have:=Ty.eq_of_beq hb
 subst this
 obtain ⟨b,es,fC,hd⟩:=KM (X.map.1 (g.obj _ _ hob).2)
 exact ⟨e,n,_,h,⟨⟨kt,te,b,es,fC,h1,h2,hte,ho,by rw [jS];exact hob,(hc.2 _ hob rfl).trans hd.lv,by rw [jS];exact hd,h3⟩⟩⟩
theorem CI {S:bN} {c:C} {k:List UInt8} {v:Value} (h:vF .str c=some k) (hc:CR cx.eT S c v):v = .string ⟨k.toArray⟩/\k.length<=aJ:=by
 have:=VR.one rfl (tg h hc)
 obtain ⟨h1,h2⟩:=this
 exact ⟨by simpa using h1,h2⟩
theorem wm {kt:TypeId} (hk:P.underlying kt=some .string) (em:Bool) (s:ByteArray) (w:World):(Instr.checkKey em 10000 kt (.string s)).run P w = .ok () w:=
 Go.MapKept.run_checkKey (d:=.string) hk (by simp [Go.MapKept.IsKey]) em 9999
theorem r4 {t kt te:TypeId} (hu:P.underlying t=some (.map kt te)) (hk:P.underlying kt=some .string) {w:World} {b fC:Nat} {es:Array MapEntry} (hb:w.heap[b]?=some (.map es fC)) {s:ByteArray} {r:Option (Nat × Value)}
  (hr:Instr.findNow .string (.string s) es.toList 0=some r) {z:Value} (hz:(zeroValue te).run P w = .ok z w) :
  (Instr.lookup t (.map (some b)) (.string s) true).run P w = .ok (.tuple #[match r with | some (_,v)=>v | none=>z, .bool r.isSome]) w:=by
 unfold Instr.lookup
 simp only [Sem.run_bind,run_underlying hu,Result.andThen_ok,Go.MapKept.run_getObj_map hb,wm hk,Sem.run_pure,Go.MapKept.run_findKey hk hr]
 cases r with
 | none=>simp [hz]
 | some p=>rfl
theorem LV:∀{e:Ty},e.fE=true->pU e=true:=by
 intro e
 induction e with
 | prod a b iha ihb=>intro h;simp [Ty.fE] at h;simp [pU,iha h.1,ihb h.2]
 | slice e _=>intro h;simp [Ty.fE] at h
 | fK=>intro h;simp [Ty.fE] at h
 | err=>intro h;simp [Ty.fE] at h
 | _=>intro _;rfl
theorem QU (hok:TyOK P cx) {S:bN} {st:St} {t:TypeId} {v:Value} {e:Ty} {n:Nat} {d:D (jD e)} (m:SO cx P S st t v e n d) (w:World):∃z,(zeroValue m.te).run P w = .ok z w/\∀eT A w',VR eT e (bO e) A w' z:=by
 obtain ⟨_,ti,_,hf,_⟩:=gx hok m.fit
 obtain ⟨z,hz,hzr⟩:=hf.zero
 obtain ⟨i,cs,hi,hc⟩:=m.zero
 rw [hf.info] at hi
 cases hi
 rw [hz] at hc
 cases hc
 have hno:=LV m.md.fE
 refine ⟨.agg cs,by simp [zeroValue,typeInfo,hf.info,hz],fun eT A w' => ?_⟩
 unfold VR
 rw [if_neg (by rw [m.one];simp)]
 exact ⟨cs,rfl,Gb hzr hno⟩
theorem Fs {es:Array MapEntry} {j:Nat} {m:MapEntry} (f:MapEntry->MapEntry) (h:es.toList[j]?=some m):(es.modify j f).toList=es.toList.set j (f m):=by
 have h':es[j]?=some m:=by rw [<-Array.getElem?_toList];exact h
 rw [Array.toList_modify]
 exact Go.ChangeMaps.modify_eq_set f es.toList j m h
theorem r5 {t kt te:TypeId} (hu:P.underlying t=some (.map kt te)) (hk:P.underlying kt=some .string) {w:World} {b fC:Nat} {es:Array MapEntry} (hb:w.heap[b]?=some (.map es fC)) {s:ByteArray} {v:Value}
  {es':Array MapEntry} {clk':Nat} (h:(Instr.findNow .string (.string s) es.toList 0=some none/\es'=es.push {key:=.string s,val:=v,born:=fC}/\clk'=fC + 1)\/
   ∃j m,Instr.findNow .string (.string s) es.toList 0=some (some (0 + j,m.val))/\es.toList[j]?=some m/\m.key = .string s/\es'=es.modify j (fun e=>{e with key:=.string s,val:=v})/\clk'=fC) :
  (Instr.mapUpdate t (.map (some b)) (.string s) v).run P w = .ok () {w with heap:=w.heap.setIfInBounds b (.map es' clk')}:=by
 unfold Instr.mapUpdate
 simp only [Sem.run_bind,run_underlying hu,Result.andThen_ok,Go.MapKept.run_getObj_map hb,wm hk]
 rcases h with ⟨h1,rfl,rfl⟩ | ⟨j,m,h1,h2,h3,rfl,rfl⟩
 ·rw [Go.MapKept.run_findKey hk h1]
  simp only [Result.andThen_ok]
  exact Go.MapKept.run_setObj_map _ hb
 ·rw [Go.MapKept.run_findKey hk h1]
  have hm:es[j]?=some m:=by rw [<-Array.getElem?_toList];exact h2
  have hs:(Instr.keyThatStays (.string s) (.string s)).run P w = .ok (.string s) w:=by
   unfold Instr.keyThatStays
   rw [if_pos (by simp only [Instr.sameBits];exact (Go.MapKept.bytes_beq s s).2 rfl)]
   rfl
  simp only [Result.andThen_ok,Nat.zero_add,hm,Option.map_some,Option.getD_some,h3,Sem.run_bind,hs]
  exact Go.MapKept.run_setObj_map _ hb
theorem r6 {t kt te ty:TypeId} {ats:Array TypeId} (hat:ats[0]?=some t) (hu:P.underlying t=some (.map kt te)) (hk:P.underlying kt=some .string) {w:World} {b fC:Nat} {es:Array MapEntry} (hb:w.heap[b]?=some (.map es fC)) {s:ByteArray}
  {es':Array MapEntry} (h:(Instr.findNow .string (.string s) es.toList 0=some none/\es'=es)\/∃j v,Instr.findNow .string (.string s) es.toList 0=some (some (0 + j,v))/\es'=es.eraseIdxIfInBounds j) :
  (Builtin.delete_ ats ty #[.map (some b), .string s]).run P w = .ok (.tuple #[]) {w with heap:=w.heap.setIfInBounds b (.map es' fC)}:=by
 unfold Builtin.delete_
 simp only [hat,List.getElem?_toArray,List.getElem?_cons_zero,List.getElem?_cons_succ,Sem.run_bind,run_underlying hu,Result.andThen_ok,Go.MapKept.run_getObj_map hb,wm hk]
 rcases h with ⟨h1,rfl⟩ | ⟨j,v,h1,rfl⟩
 ·rw [Go.MapKept.run_findKey hk h1]
  simp only [Result.andThen_ok,Sem.run_bind,Go.MapKept.run_setObj_map _ hb,Sem.run_pure]
 ·rw [Go.MapKept.run_findKey hk h1]
  simp only [Result.andThen_ok,Nat.zero_add,Sem.run_bind,Go.MapKept.run_setObj_map _ hb,Sem.run_pure]
theorem QV {w:World} {b:Nat} {o:Obj} (hb:b < w.heap.size):({w with heap:=w.heap.setIfInBounds b o}:World).heap[b]?=some o:=by
 simp [hb]
theorem Jb {w:World} {b b':Nat} {o:Obj} (h:b'≠b):({w with heap:=w.heap.setIfInBounds b o}:World).heap[b']?=w.heap[b']?:=by
 simp only [Array.getElem?_setIfInBounds]
 rw [if_neg (fun e=>h e.symm)]
theorem map_set {O:aM} {st:St} {loc:Nat->Loc} {w:World} (g:Good cx.eT X (aB O st loc w)) (hO:gv O w) {e:Ty} {n b fC clk':Nat} {es es':Array MapEntry} {d:D (jD e)}
  (hob:look st.aK n=some (.ext 1 (jD e) d)) (hm:FV e d (loc n) w b es fC) {xs:List (D (iW e))} {c':Int} (hc:c'=(clk':Int)) (hents:jo e xs es'.toList w) (hbig:xs.length<=aJ) (hold:∀y∈xs,y.2.2.1 < c') :
  Tr (aB O st loc w) (aB O (setObj st n (.ext 1 (jD e) (xs,c',()))) loc {w with heap:=w.heap.setIfInBounds b (.map es' clk')})/\
   Good cx.eT X (aB O (setObj st n (.ext 1 (jD e) (xs,c',()))) loc {w with heap:=w.heap.setIfInBounds b (.map es' clk')}):=by
 have hlt:b < w.heap.size:=(Array.getElem?_eq_some_iff.1 hm.heap).1
 obtain ⟨t1,g1⟩:=Dl (w':={w with heap:=w.heap.setIfInBounds b (.map es' clk')}) (oc':=.ext 1 (jD e) (xs,c',())) g hO hob hm.bs ⟨rfl,rfl⟩ rfl rfl rfl rfl (by simp) (fun b' hb'=>Jb hb')
 exact ⟨t1,g1 (X.map.2 ⟨e,rfl,b,es',clk',hm.fE,hm.lv,hm.bs,QV hlt,hc,hents.to hm.fE,hbig,hold⟩)⟩
theorem QW {e:Ty} {xs:List (D (iW e))} {k:List UInt8} {v:D e} {c:Int} (h1:fU e xs k=false) (h2:∀v c,jh e xs k v c=xs++[(k,v,c,())]) (hold:∀y∈xs,y.2.2.1 < c):∀y∈jh e xs k v c,y.2.2.1 < pA e xs k c:=by
 intro y hy
 rw [h2] at hy
 unfold pA
 rw [h1]
 simp only [Bool.false_eq_true,if_false]
 rcases List.mem_append.1 hy with hy | hy
 ·have h3:(y.2.2.1:Int) < c:=hold y hy
  exact Int.lt_add_one_of_le (Int.le_of_lt h3)
 ·simp at hy;subst hy;exact Int.lt_add_one_of_le (Int.le_refl _)
theorem KN {e:Ty} {w:World}:∀{x:List (D (iW e))} {ms:List MapEntry} {s:Nat},jo e x ms w->qD e x (s:Int)=true->∃m,ms.find? (fun m=>m.born == s)=some m/\zH e (vH e x (s:Int)) m w
 | y :: r,m :: ms,s,⟨h1,h2⟩,hb=>by
  by_cases c:m.born=s
  ·have c':y.2.2.1=(s:Int):=by rw [h1.born,c]
   exact ⟨m,by simp [c],by rw [vH,if_pos c'];exact h1⟩
  ·have c':¬ y.2.2.1=(s:Int):=fun h=>c (Int.ofNat.inj (h1.born.symm.trans h))
   rw [qD,if_neg c'] at hb
   obtain ⟨m',h3,h4⟩:=KN h2 hb
   exact ⟨m',by simp [c,h3],by rw [vH,if_neg c'];exact h4⟩
 | [],[],_,_,hb=>by simp [qD] at hb
theorem Dm {e:Ty} {w:World} {sn:Array Nat}:∀{x:List (D (iW e))} {ms:List MapEntry},jo e x ms w->jo e (jq e x (sn.toList.map fun (n:Nat)=>(n:Int))) (ms.filter fun m => !sn.contains m.born) w
 | [],[],_=>trivial
 | y :: r,m :: ms,⟨h1,h2⟩=>by
  have hc:(sn.toList.map fun (n:Nat)=>(n:Int)).contains y.2.2.1=sn.contains m.born:=by
   rw [Bool.eq_iff_iff,h1.born]
   simp only [List.contains_iff_mem,List.mem_map,Array.mem_toList_iff,Array.contains_iff_mem]
   exact ⟨fun ⟨a,h3,h4⟩=>by rw [<-Int.ofNat.inj h4];exact h3,fun h=>⟨_,h,rfl⟩⟩
  have ih:=Dm (sn:=sn) h2
  unfold jq at ih ⊢
  rw [List.filter_cons,List.filter_cons,hc]
  cases sn.contains m.born with
  | true=>simp only [Bool.not_true,Bool.false_eq_true,if_false];exact ih
  | false=>simp only [Bool.not_false,if_true];exact ⟨h1,ih⟩
 | [],_ :: _,h=>h.elim
 | _ :: _,[],h=>h.elim
theorem zW {e:Ty} {w:World}:∀{x:List (D (iW e))} {ms:List MapEntry} {m:MapEntry},jo e x ms w->m∈ms->∃y∈x,zH e y m w
 | y :: _,_ :: _,m,⟨h1,h2⟩,hm=>by
  rcases List.mem_cons.1 hm with rfl | hm
  ·exact ⟨y,by simp,h1⟩
  ·obtain ⟨y',h3,h4⟩:=zW h2 hm
   exact ⟨y',by simp [h3],h4⟩
 | [],[],_,_,hm=>by simp at hm
structure T9 (S:bN) (v:Value) (e:Ty) (k:Nat) (cs:List C) (seen:List Int) (cl:Int) (d:D (jD e)) where
 n:Nat
 b:Nat
 r:Nat
 es:Array MapEntry
 fC:Nat
 c:Nat
 sn:Array Nat
 ob:S.ob n=some (.ext 1 (jD e) d)
 it:S.ob k=some (.iter cs seen cl)
 val:v = .pointer (some ⟨r,0,none⟩)
 md:FV e d (S.loc n) S.w b es fC
 hr:S.w.heap[r]?=some (.mapIter (some b) c sn c)
 gU:cl=(c:Int)
 Dn:seen=sn.toList.map fun (n:Nat)=>(n:Int)
 ib:(S.loc k).bs = [r]
 Ve:(S.loc k).v = .pointer (some ⟨r,0,none⟩)
theorem AY {O:aM} {st:St} {loc:Nat->Loc} {w:World} (g:Good cx.eT X (aB O st loc w)) {c:C} {v:Value} {K:(e:Ty)->Nat->List C->List Int->Int->D (jD e)->VC} (hc:CR cx.eT (aB O st loc w) c v)
  (h:(AW st c K).holds):∃e k cs seen cl d,(K e k cs seen cl d).holds/\(∃m,cs = [.eZ m])/\Nonempty (T9 (aB O st loc w) v e k cs seen cl d):=by
 unfold AW at h
 split at h
 case h_2=>exact h.elim
 rename_i k
 split at h
 case h_2=>exact h.elim
 rename_i n seen cl hk
 split at h
 case h_2=>exact h.elim
 rename_i t' x hob
 split at h
 case h_2=>exact h.elim
 rename_i e hun
 split at h
 case h_2=>exact h.elim
 rename_i hb
 have:=Ty.eq_of_beq hb
 subst this
 obtain ⟨b,es,fC,hd⟩:=KM (X.map.1 (g.obj _ _ hob).2)
 obtain ⟨r,m,c,sn,h1,h2,h3,h4,h5,h6⟩:=(g.obj _ _ hk).2
 have hmb:m=b:=by
  cases h4 with
  | cons h7 _ _=>
   have:=(h7.2 _ hob rfl).trans hd.lv
   cases this;rfl
 subst hmb
 exact ⟨e,k,_,seen,cl,_,h,⟨n,rfl⟩,⟨⟨n,m,r,es,fC,c,sn,by rw [jS];exact hob,hk,(hc.2 _ hk rfl).trans h1,by rw [jS];exact hd,h3,h5,h6,h2,h1⟩⟩⟩
theorem Gk {S:bN} {eT:TypeId} {y:List UInt8} {v:Value} (h:v = .string ⟨y.toArray⟩/\y.length<=aJ):jt eT S (.one (.d .str y)) v:=by
 show VR eT .str y S.A S.w v
 rw [h.1]
 exact VR.cZ rfl ⟨rfl,h.2⟩
theorem Td {S:bN} {eT:TypeId} {n:Nat} (h:n<=aJ):eH eT S (.s (.one (.d (.int .i64) (n:Int)))) (.int .i64 (n:Int)):=by
 show VR eT (.int .i64) (n:Int) S.A S.w _
 refine VR.cZ rfl ⟨rfl,?_⟩
 rw [TW] at h
 show (-9223372036854775808:Int)<=(n:Int)/\(n:Int)<=9223372036854775807
 omega
theorem Gl {S:bN} {eT:TypeId} {x b:Bool} (h:x=b):jt eT S (.one (.d .bool x)) (.bool b):=by
 subst h
 show VR eT .bool x S.A S.w (.bool x)
 exact VR.cZ rfl rfl
theorem Jc (hok:TyOK P cx) {O:aM} {st:St} {loc:Nat->Loc} {w:World} {a:Act} (g:Good cx.eT X (aB O st loc w)) (hO:gv O w) (he:jg cx.eT (aB O st loc w) st.env a)
  {o:Oper} {K:SV->St->VC} {vc:VC} (hm:AX cx st o K=some vc) (h:vc.holds) :
  ∃sv v st' loc' w',(K sv st').holds/\st'.env=st.env/\Good cx.eT X (aB O st' loc' w')/\Tr (aB O st loc w) (aB O st' loc' w')/\eH cx.eT (aB O st' loc' w') sv v/\
   ((execOp a.eval o).run P w = .ok (.value v) w'\/((execOp a.eval o).run P w = .ok .skip w'/\sv = .s (.one .any))):=by
 unfold AX at hm
 split at hm
 ·rename_i t hop
  cases hm
  split at h
  case h_2=>exact h.elim
  rename_i k te hmp
  split at h
  case h_2=>exact h.elim
  rename_i e hte
  split at h
  case h_2=>exact h.elim
  rename_i hs
  have hb:Below w.heap.size w (w.alloc (.map #[] 0)):=(Below.refl _ w).alloc (Nat.le_refl _) _
  obtain ⟨tr1,g1⟩:=gW (oc:=.ext 1 (jD e) ([],0,())) (l:=⟨.map (some w.heap.size),[w.heap.size]⟩) g hO hb (by simp)
  have g1:=g1 (X.map.2 ⟨e,rfl,w.heap.size,#[],0,hs,rfl,rfl,heap_alloc_new w _,rfl,trivial,by simp,fun y hy=>by simp at hy⟩)
  refine ⟨_, .map (some w.heap.size),_,_,_,h,rfl,g1,tr1,⟨by show st.next < st.next + 1;omega,fun oc hoc _=>by simp [aB,cI]⟩, .inl ?_⟩
  simp [execOp,hop,Instr.makeMap]
 ·rename_i t m x hop
  cases hm
  obtain ⟨e,n,d,h1,⟨M⟩⟩:=oZ (P:=P) hok g (bS he m) h
  split at h1
  case h_2=>exact h1.elim
  rename_i k hk
  obtain ⟨hv,hl⟩:=CI hk (bS he x)
  obtain ⟨z,hz,hzr⟩:=QU hok M w
  rcases rZ hl 0 M.md.sH with ⟨k1,k2,k3,k4,k5⟩ | ⟨k1,j,m',k2,k3,k4,k5,_⟩
  ·refine ⟨_, .tuple #[z, .bool false],st,loc,w,h1,rfl,g,Tr.refl _,⟨[z, .bool false],rfl, .cons (by rw [k2];exact hzr _ _ _) (.cons (Gl k1) .nil)⟩, .inl ?_⟩
   have hrun:=r4 (w:=w) M.jm M.key M.md.heap k3 hz
   simp only [execOp,hop,Sem.run_bind,M.val,hv]
   rw [hrun]
   rfl
  ·refine ⟨_, .tuple #[m'.val, .bool true],st,loc,w,h1,rfl,g,Tr.refl _,⟨[m'.val, .bool true],rfl, .cons (tq M.md.fE k4) (.cons (Gl k1) .nil)⟩, .inl ?_⟩
   have hrun:=r4 (w:=w) M.jm M.key M.md.heap k3 hz
   simp only [execOp,hop,Sem.run_bind,M.val,hv]
   rw [hrun]
   rfl
 ·rename_i t m x v hop
  cases hm
  obtain ⟨e,n,d,h1,⟨M⟩⟩:=oZ (P:=P) hok g (bS he m) h
  split at h1
  case h_2=>exact h1.elim
  rename_i k y hk hy
  obtain ⟨hbig,h1⟩:=h1
  obtain ⟨hv,hl⟩:=CI hk (bS he x)
  have hvy:VR 0 e y SK w (a.eval v):=tq M.md.fE (lK hy (l8 he v))
  rcases rZ hl 0 M.md.sH with ⟨k1,k2,k3,k4,k5⟩ | ⟨k1,j,m',k2,k3,k4,k5,k6,k7,k8,_⟩
  ·obtain ⟨t1,g1⟩:=map_set (es':=M.es.push {key:=.string ⟨k.toArray⟩,val:=a.eval v,born:=M.fC}) (clk':=M.fC + 1) g hO M.ob M.md (xs:=jh e d.1 k y d.2.1) (c':=pA e d.1 k d.2.1)
    (by unfold pA;rw [k1,M.md.fC];rfl) (by rw [k4,Array.toList_push];exact jo.snoc ⟨⟨rfl,hl⟩,hvy,M.md.fC⟩ M.md.sH) (by rw [k4];simp;omega) (QW k1 k4 M.md.tf)
   refine ⟨_, .nilFunc,_,loc,_,h1,rfl,g1,t1,trivial, .inr ⟨?_,rfl⟩⟩
   have hrun:=r5 (w:=w) M.jm M.key M.md.heap (v:=a.eval v) (.inl ⟨k3,rfl,rfl⟩)
   simp only [execOp,hop,Sem.run_bind,M.val,hv]
   rw [hrun]
   rfl
  ·obtain ⟨t1,g1⟩:=map_set (es':=M.es.modify j (fun e=>{e with key:=.string ⟨k.toArray⟩,val:=a.eval v})) (clk':=M.fC) g hO M.ob M.md (xs:=jh e d.1 k y d.2.1) (c':=pA e d.1 k d.2.1)
    (by unfold pA;rw [k1,M.md.fC];rfl) (by rw [Fs _ k2];exact k6 y (a.eval v) _ hvy) (by rw [k7];exact M.md.aJ) (fun y' hy'=>by
     obtain ⟨y2,h3,h4⟩:=k8 _ _ y' hy'
     rw [h4];unfold pA;rw [k1];exact M.md.tf y2 h3)
   refine ⟨_, .nilFunc,_,loc,_,h1,rfl,g1,t1,trivial, .inr ⟨?_,rfl⟩⟩
   have hrun:=r5 (w:=w) M.jm M.key M.md.heap (v:=a.eval v) (.inr ⟨j,m',k3,k2,k5,rfl,rfl⟩)
   simp only [execOp,hop,Sem.run_bind,M.val,hv]
   rw [hrun]
   rfl
 ·rename_i t m hop
  cases hm
  have hc0:=bS he m
  obtain ⟨e,n,d,h1,⟨M⟩⟩:=oZ (P:=P) hok g hc0 h
  have hb:Below w.heap.size w (w.alloc (.mapIter (some M.b) M.fC #[] M.fC)):=(Below.refl _ w).alloc (Nat.le_refl _) _
  obtain ⟨tr1,g1⟩:=gW (oc:=.iter [.eZ n] [] d.2.1) (l:=⟨.pointer (some ⟨w.heap.size,0,none⟩),[w.heap.size]⟩) g hO hb (by simp)
  have hx:CR cx.eT (aB O st loc w) (.eZ n) (.map (some M.b)):=⟨(g.obj _ _ M.ob).1,fun oc hoc _=>M.md.lv.symm⟩
  have g1:=g1 ⟨w.heap.size,M.b,M.fC,#[],rfl,rfl,heap_alloc_new w _, .cons (hx.tr tr1) rfl .nil,M.md.fC,rfl⟩
  refine ⟨_, .pointer (some ⟨w.heap.size,0,none⟩),_,_,_,h1,rfl,g1,tr1,⟨by show st.next < st.next + 1;omega,fun oc hoc _=>by simp [aB,cI]⟩, .inl ?_⟩
  have hu:=M.jm
  have hh:w.heap[M.b]?=some (.map M.es M.fC):=M.md.heap
  have hgo:(getObj M.b).run P w = .ok (.map M.es M.fC) w:=Go.MapKept.run_getObj_map hh
  simp only [execOp,hop,M.val,Instr.range,Sem.run_bind,run_underlying hu,Result.andThen_ok,hgo,Sem.run_pure]
  rfl
 ·rename_i it hop
  cases hm
  unfold N5 at h
  obtain ⟨e,k,cs,seen,cl,d,h1,⟨n0,rfl⟩,⟨M⟩⟩:=AY g (bS he it) h
  obtain ⟨gU,h1,h2⟩:=h1
  have hcc:M.fC=M.c:=Int.ofNat.inj (M.md.fC.symm.trans (gU.trans M.gU))
  have hold:∀x∈M.es.toList,x.born < M.c:=fun x hx=>by
   obtain ⟨y,hy,hyr⟩:=zW M.md.sH hx
   have h3:=M.md.tf y hy
   rw [hyr.born,M.md.fC,hcc] at h3
   exact Int.ofNat_lt.1 h3
  have hleft:jo e (jq e d.1 seen) (leftOf M.es M.sn).toList w:=by
   have:=Dm (sn:=M.sn) M.md.sH
   rw [<-M.Dn] at this
   unfold leftOf
   rw [Array.toList_filter]
   exact this
  have hrl:M.r < w.heap.size:=(Array.getElem?_eq_some_iff.1 M.hr).1
  rcases Go.run_next_at (P:=P) w o.type M.r M.b M.c M.c M.sn M.es M.fC M.hr M.md.heap hold (Nat.le_refl _) with ⟨h3,h4⟩ | ⟨m,hm,w1,hw1,h4⟩
  ·have hnil:jq e d.1 seen = []:=List.length_eq_zero_iff.1 (by rw [hleft.len];simpa using h3)
   refine ⟨_, .tuple #[.bool false],st,loc,w,h1 hnil,rfl,g,Tr.refl _,⟨[.bool false],rfl, .cons rfl .nil⟩, .inl ?_⟩
   simp only [execOp,hop,M.val,Sem.run_bind,h4,Result.andThen_ok,Sem.run_pure]
  ·obtain ⟨y,hy,hyr⟩:=zW hleft hm
   have hK:=h2 y hy
   have e1:w1.heap=w.heap/\w1.os=w.os/\w1.output=w.output:=by rcases hw1 with rfl | rfl <;> exact ⟨rfl,rfl,rfl⟩
   obtain ⟨t1,g1⟩:=Dl (w':=Go.ChangeMaps.setBlock w1 M.r (.mapIter (some M.b) M.c (M.sn.push m.born) M.fC)) (oc':=.iter [.eZ n0] (seen++[y.2.2.1]) cl) g hO M.it M.ib trivial rfl rfl e1.2.1 e1.2.2
    (by simp [Go.ChangeMaps.setBlock,e1.1]) (fun b' hb'=>by simp only [Go.ChangeMaps.setBlock,Array.getElem?_setIfInBounds,e1.1];rw [if_neg (fun e=>hb' e.symm)])
   have hor:=(g.obj _ _ M.it).2
   have hg1:=g1 (by
    obtain ⟨r',m0,c0,sn0,q1,q2,q3,q4,q5,q6⟩:=hor
    have hmb:m0=M.b:=by
     have hr':r'=M.r:=by have:=M.Ve.symm.trans q1;cases this;rfl
     subst hr'
     have:=M.hr.symm.trans q3
     cases this;rfl
    refine ⟨M.r,m0,M.c,M.sn.push m.born,M.Ve,M.ib,?_,q4.tr t1,M.gU,?_⟩
    ·show (Go.ChangeMaps.setBlock w1 M.r _).heap[M.r]?=_
     rw [hmb,hcc]
     simp only [Go.ChangeMaps.setBlock,Array.getElem?_setIfInBounds,e1.1]
     simp [hrl]
    ·rw [Array.toList_push,List.map_append,<-M.Dn,hyr.born];rfl)
   refine ⟨_, .tuple #[.bool true,m.key,m.val],_,loc,_,hK,rfl,hg1,t1,⟨[.bool true,m.key,m.val],rfl, .cons rfl (.cons (Gk hyr.key) (.cons (tq M.md.fE hyr.val) .nil))⟩, .inl ?_⟩
   simp only [execOp,hop,M.val,Sem.run_bind,h4,Result.andThen_ok,Sem.run_pure]
 ·rename_i it hop
  cases hm
  obtain ⟨e,k,cs,seen,cl,d,h1,⟨n0,rfl⟩,⟨M⟩⟩:=AY g (bS he it) h
  obtain ⟨gU,hne,hbo,h1⟩:=h1
  have hcc:M.fC=M.c:=Int.ofNat.inj (M.md.fC.symm.trans (gU.trans M.gU))
  have Dn:M.sn.toList≠[]:=fun e0=>hne (by rw [M.Dn,e0];rfl)
  have hlast:∃s,M.sn.back?=some s/\oY seen=(s:Int):=by
   refine ⟨M.sn.toList.getLast Dn,?_,?_⟩
   ·rw [<-Array.getLast?_toList];exact List.getLast?_eq_some_getLast Dn
   ·refine (congrArg oY M.Dn).trans ?_
    unfold oY
    rw [List.getLastD_eq_getLast?,List.getLast?_map,List.getLast?_eq_some_getLast Dn]
    rfl
  obtain ⟨s,hs1,hs2⟩:=hlast
  rw [hs2] at hbo h1
  obtain ⟨m,hm1,hm2⟩:=KN M.md.sH hbo
  refine ⟨_, .tuple #[m.key,m.val],st,loc,w,h1,rfl,g,Tr.refl _,⟨[m.key,m.val],rfl, .cons (Gk hm2.key) (.cons (tq M.md.fE hm2.val) .nil)⟩, .inl ?_⟩
  have hf:M.es.find? (fun m=>m.born == s)=some m:=by rw [<-Array.find?_toList];exact hm1
  have hr:=M.hr
  have hb:=M.md.heap
  simp only [aB] at hr hb
  simp only [execOp,hop,M.val,Instr.entry,getObj,Sem.run_bind,Sem.run,hr,hb,Result.andThen,hs1,hcc,bne_self_eq_false,Bool.false_eq_true,if_false,hf]
  rfl
 ·rename_i c hop
  split at hm
  ·rename_i hcal
   split at hm
   ·rename_i m x t ts harg hty
    cases hm
    obtain ⟨e,n,d,h1,⟨M⟩⟩:=oZ (P:=P) hok g (bS he m) h
    split at h1
    case h_2=>exact h1.elim
    rename_i k hk
    obtain ⟨hv,hl⟩:=CI hk (bS he x)
    have ha:c.args = #[m,x]:=Array.toList_inj.1 harg
    have hat:c.argTypes[0]?=some t:=by rw [<-Array.getElem?_toList,hty];rfl
    have fin:∀es':Array MapEntry,jo e (jG e d.1 k) es'.toList w->(jG e d.1 k).length<=aJ->(∀y∈jG e d.1 k,y∈d.1)->
      (∀ty,(Builtin.delete_ c.argTypes ty #[.map (some M.b), .string ⟨k.toArray⟩]).run P w = .ok (.tuple #[]) {w with heap:=w.heap.setIfInBounds M.b (.map es' M.fC)})->
      ∃sv v st' loc' w',(K sv st').holds/\st'.env=st.env/\Good cx.eT X (aB O st' loc' w')/\Tr (aB O st loc w) (aB O st' loc' w')/\eH cx.eT (aB O st' loc' w') sv v/\
       ((execOp a.eval o).run P w = .ok (.value v) w'\/((execOp a.eval o).run P w = .ok .skip w'/\sv = .s (.one .any))):=by
     intro es' h3 h4 h5 h6
     obtain ⟨t1,g1⟩:=map_set (es':=es') (clk':=M.fC) g hO M.ob M.md (xs:=jG e d.1 k) (c':=d.2.1) M.md.fC h3 h4 (fun y hy=>M.md.tf y (h5 y hy))
     refine ⟨_, .tuple #[],_,loc,_,h1,rfl,g1,t1,trivial, .inl ?_⟩
     simp [execOp,hop,resolve,hcal,ha,invoke,builtin,M.val,hv,h6]
    rcases rZ hl 0 M.md.sH with ⟨k1,k2,k3,k4,k5⟩ | ⟨k1,j,m',k2,k3,k4,k5,k6,k7,k8,k9,k10,k11⟩
    ·exact fin M.es (by rw [k5];exact M.md.sH) (by rw [k5];exact M.md.aJ) (fun y hy=>by rw [k5] at hy;exact hy) fun ty=>r6 hat M.jm M.key M.md.heap (.inl ⟨k3,rfl⟩)
    ·have hj:j < M.es.size:=by
      rcases Nat.lt_or_ge j M.es.toList.length with h' | h'
      ·simpa using h'
      ·rw [List.getElem?_eq_none h'] at k2;cases k2
     refine fin (M.es.eraseIdxIfInBounds j) ?_ (Nat.le_trans k11 M.md.aJ) k10 fun ty=>r6 hat M.jm M.key M.md.heap (.inr ⟨j,_,k3,rfl⟩)
     unfold Array.eraseIdxIfInBounds
     rw [dif_pos hj,Array.toList_eraseIdx]
     exact k9
   ·cases hm;exact h.elim
  ·rename_i hcal
   split at hm
   ·rename_i x t harg hty
    split at hm
    ·cases hm
     obtain ⟨e,n,d,h1,⟨M⟩⟩:=oZ (P:=P) hok g (bS he x) h
     have ha:c.args = #[x]:=Array.toList_inj.1 harg
     have ht:c.argTypes = #[t]:=Array.toList_inj.1 hty
     have hsz:d.1.length=M.es.size:=by rw [M.md.sH.len];simp
     refine ⟨_, .int .i64 (d.1.length:Int),st,loc,w,h1,rfl,g,Tr.refl _,Td M.md.aJ, .inl ?_⟩
     have hgo:(getObj M.b).run P w = .ok (.map M.es M.fC) w:=Go.MapKept.run_getObj_map M.md.heap
     simp [execOp,hop,resolve,hcal,ha,ht,invoke,builtin,Builtin.len_,run_underlying M.jm,hgo,goInt,M.val,hsz]
    ·cases hm
   ·cases hm
  ·cases hm
 ·cases hm
end
end Go.Vg

namespace Go.Vg
open Go.RowKit
def zX (cx:Cx) (st:St) (x:Operand) (ty:TypeId) (K:SV->St->VC):VC:=
 match ev st.env x,look cx.τ ty with
 | .s (.one .jR),some (.slice e)=>match e.fE with
  | true=>K (.s (.one (.bE st.next))) (fresh st (.bE e []))
  | false=>wi cx st x ty K
 | _,_ => .ff
def zY (cx:Cx) (st:St) (t:TypeId) (n:Nat) (x:C) (K:SV->St->VC):VC:=
 match look cx.τ t with
 | some (.slice e)=>match e.fE,wa st e x,look st.aK n with
  | true,some ys,some (.bE e' zs)=>match h:Ty.beq (.slice e') (.slice e) with
   | true => .and (0 < List.length ys/\List.length zs + List.length ys<=1000000000) (K (.s (.one (.bE st.next))) (fresh (bL (bL st n) n) (.bE e (cR h (a:=.slice e') zs++ys))))
   | false => .ff
  | _,_,_ => .ff
 | _ => .ff
section
variable {X:Ext} {P:Program} {cx:Cx}
theorem wo {O:aM} {st:St} {loc:Nat->Loc} {w:World} {a:Act} (g:Good cx.eT X (aB O st loc w)) (hO:gv O w) (he:jg cx.eT (aB O st loc w) st.env a)
  {x:Operand} {ty:TypeId} {K:SV->St->VC} (h:(zX cx st x ty K).holds) :
  ∃sv st' loc',(K sv st').holds/\st'.env=st.env/\Good cx.eT X (aB O st' loc' w)/\Tr (aB O st loc w) (aB O st' loc' w)/\eH cx.eT (aB O st' loc' w) sv (a.eval x):=by
 have hx:=mw he x
 unfold zX at h
 split at h
 case h_2=>exact h.elim
 rename_i e hl _
 rw [hl] at hx
 split at h
 ·obtain ⟨tr1,g1⟩:=gW (oc:=.bE e []) (l:=⟨.slice none 0 0,[]⟩) g hO (Below.refl _ w) (by simp)
  have g1:=g1 (.inl ⟨rfl,⟨none,rfl⟩,rfl⟩)
  refine ⟨_,_,_,h,rfl,g1,tr1,?_⟩
  rw [show a.eval x=_ from hx]
  exact ⟨by simp [aB,fresh],fun t ys hy=>by simp [aB,cI]⟩
 ·exact Fp g hO he h
theorem Gm (hok:TyOK P cx) {O:aM} {st:St} {loc:Nat->Loc} {w:World} (g:Good cx.eT X (aB O st loc w)) (hO:gv O w)
  {t ty:TypeId} {n:Nat} {x:C} {K:SV->St->VC} {vs vx:Value} (hs:CR cx.eT (aB O st loc w) (.bE n) vs) (hx:CR cx.eT (aB O st loc w) x vx) (h:(zY cx st t n x K).holds) :
  ∃sv v st' loc' w',(K sv st').holds/\st'.env=st.env/\Good cx.eT X (aB O st' loc' w')/\Tr (aB O st loc w) (aB O st' loc' w')/\eH cx.eT (aB O st' loc' w') sv v/\
   (Builtin.append_ #[t,t] ty #[vs,vx]).run P w = .ok v w':=by
 unfold zY at h
 split at h
 case h_2=>exact h.elim
 rename_i e ht
 obtain ⟨te,ti,td,hu,hf⟩:=ia hok ht
 obtain ⟨z,hz,hzr⟩:=hf.zero
 have hzs:z.cells.size=e.size:=by
  rw [<-Array.length_toList]
  exact (lL (S:=aB O st loc w) (cx:=cx) hzr).length.symm.trans (jE e)
 split at h
 case h_2=>exact h.elim
 rename_i ys e' zs hsc hys hob
 split at h
 case h_2=>exact h.elim
 rename_i hb1
 have he1:e'=e:=by have:=Ty.eq_of_beq hb1;cases this;rfl
 subst he1
 rw [gB] at h
 obtain ⟨⟨hpos,hle⟩,h⟩:=h
 have hvl:=hs.2 _ _ hob
 have hbytes:(List.length zs + List.length ys) * ti.bytes<=140737488355328:=by have:=Nat.mul_le_mul hle hf.bytes;omega
 rcases ug g hys hx with ⟨rfl,_⟩ | ⟨b,o,cap,cs,hvx,gU,hcc,hrl,hone⟩
 ·simp at hpos
 have hnews:∀j u,cs[j]?=some u->w.cell? ((⟨b,o,none⟩:Addr).add j)=some u:=fun j u hj=>by rw [Addr.add_lit];exact hcc j u hj
 subst hvx
 have fin:∀(w':World) (b' cap':Nat) (vs':Array Value) (T':TypeId) (olds:List Value),olds.length=List.length zs * e'.size->gA cx.eT e' zs (aB O st loc w).A w olds->
   w'.os=w.os->w'.output=w.output->w.heap.size<=w'.heap.size->(b'∈(loc n).bs\/w.heap.size<=b')->(∀b,b < w.heap.size->b≠b'->w'.heap[b]?=w.heap[b]?)->
   w'.heap[b']?=some (.cells vs' T' (0,0))->vs'.size=cap' * e'.size->List.length zs + List.length ys<=cap'->(∀(j:Nat) u,(olds++cs)[j]?=some u->vs'[j]?=some u)->
   (Builtin.append_ #[t,t] ty #[vs, .slice (some ⟨b,o,none⟩) ys.length cap]).run P w = .ok (.slice (some ⟨b',0,none⟩) (List.length zs + List.length ys) cap') w'->
   ∃sv v st' loc' w',(K sv st').holds/\st'.env=st.env/\Good cx.eT X (aB O st' loc' w')/\Tr (aB O st loc w) (aB O st' loc' w')/\eH cx.eT (aB O st' loc' w') sv v/\
    (Builtin.append_ #[t,t] ty #[vs, .slice (some ⟨b,o,none⟩) ys.length cap]).run P w = .ok v w':=by
  intro w' b' cap' vs' T' olds ho1 ho3 hos hout hsize hb' hoth hheap' hsz' hcap' hv hrun
  obtain ⟨tr,gd⟩:=ui (w':=w') (oc:=.bE e' (zs++ys)) (l:=⟨.slice (some ⟨b',0,none⟩) (List.length zs + List.length ys) cap',[b']⟩) g hO n n hos hout hsize
   (fun k oc' hk hl=>by
    have:k=n:=by rcases hk with h | h <;> exact h
    subst this;rw [hob] at hl;cases hl;rfl)
   (fun b hlt hb=>by
    refine hoth b hlt fun e' => ?_
    subst e'
    rcases hb' with k1 | k1
    ·exact hb n _ (.inl rfl) hob k1
    ·omega)
   (fun b hbm=>by
    simp at hbm
    subst hbm
    rcases hb' with k1 | k1
    ·exact .inl ⟨n,_, .inl rfl,hob,k1⟩
    ·exact .inr k1)
  have gd:=gd (.inr ⟨b',vs',T',cap',by rw [List.length_append],rfl,hheap',hsz',by rw [List.length_append];exact hcap',by rw [List.length_append];unfold aJ;omega,fun i y hy=>by
   obtain ⟨us,r1,r2⟩:=(ho3.append ho1 hrl) i y hy
   exact ⟨us,ki hsc r1,fun j u hj=>hv _ u (r2 j u hj)⟩⟩)
  exact ⟨_,_,_,_,_,h,rfl,gd,tr,⟨by simp [aB,fresh,bL],fun t xs hy=>by simp [aB,cI]⟩,hrun⟩
 rcases (g.obj n _ hob).2 with ⟨rfl,⟨a0,ha0⟩,hbs0⟩ | ⟨b1,vs1,T1,cap1,hl1,hbs1,hheap1,hsz1,hfit1,hbig1,he1⟩
 ·have hvs0:vs = .slice a0 0 0:=hvl.trans ha0
  subst hvs0
  have hrun:=ng (P:=P) (w:=w) (t:=t) (ty:=ty) hu hf.info hz a0 (a:=⟨b,o,none⟩) (n:=List.length ys) (c:=cap) (news:=cs) (by rw [gU,hf.size]) hnews hpos (by simp at hle;omega)
   (by have:=hbytes;simp only [List.length_nil,Nat.zero_add] at this;omega)
  have hc':List.length ys<=grownCap w (List.length ys) 0 te:=grownCap_ge w _ _ _
  have hB:Below w.heap.size w (w.drew.alloc (.cells (cs.toArray++Builtin.zeroCells z.cells (grownCap w (List.length ys) 0 te - List.length ys)) te)):=(Below.refl _ w).drew.alloc (Nat.le_refl _) _
  refine fin _ w.heap.size (grownCap w (List.length ys) 0 te) _ te [] (by simp) (fun i y hy=>by simp at hy) hB.os hB.output hB.size (.inr (Nat.le_refl _)) (fun b hlt _=>hB.block b hlt) (heap_alloc_new w.drew _) ?_ (by simpa using hc')
   (fun j u hj => ?_) (by rw [hrun];simp)
  ·simp only [Array.size_append,List.size_toArray,size_zeroCells,hzs,gU,<-Nat.add_mul]
   congr 1;omega
  ·rw [List.nil_append] at hj
   rw [Array.getElem?_append,if_pos (by simpa using bI hj)]
   simpa using hj
 ·have hvs0:vs = .slice (some ⟨b1,0,none⟩) (List.length zs) cap1:=hvl.trans hl1
  subst hvs0
  have hxs:List.length zs * e'.size<=vs1.size:=by rw [hsz1];exact Nat.mul_le_mul_right _ hfit1
  obtain ⟨olds,ho,ho1,ho3,_⟩:=sL he1 hxs
  have ho2:∀j u,olds[j]?=some u->vs1[j]?=some u:=fun j u hj=>by
   rw [ho,List.getElem?_take] at hj
   split at hj
   ·rwa [Array.getElem?_toList] at hj
   ·cases hj
  by_cases hroom:List.length zs + List.length ys<=cap1
  ·have hmul:(List.length zs + List.length ys) * e'.size<=cap1 * e'.size:=Nat.mul_le_mul_right _ hroom
   rw [Nat.add_mul] at hmul
   have hfit:List.length zs * ti.size + cs.length<=vs1.size:=by rw [hf.size,hsz1,gU];exact hmul
   have hrun:=qt (P:=P) (ty:=ty) hu hf.info hheap1 (a:=⟨b,o,none⟩) (c:=cap) (by rw [gU,hf.size]) hnews hone hroom hfit
   rw [hf.size] at hrun hfit
   generalize hcur':(vs1.toList.take (List.length zs * e'.size)++cs++vs1.toList.drop (List.length zs * e'.size + cs.length)).toArray=cur' at hrun
   have hget:∀k:Nat,cur'[k]?=if k < List.length zs * e'.size then vs1[k]? else if k < List.length zs * e'.size + cs.length then cs[k - List.length zs * e'.size]? else vs1[k]?:=by
    intro k
    rw [<-hcur',List.getElem?_toArray,iz _ _ _ _ (by simpa using hfit)]
    simp
   have hsz':cur'.size=vs1.size:=by
    rw [<-hcur'];simp only [List.size_toArray,List.length_append,List.length_take,List.length_drop,Array.length_toList];omega
   refine fin (w.setRow b1 cur') b1 cap1 cur' T1 olds ho1 ho3 rfl rfl (by simp [World.setRow]) (.inl (by rw [show (loc n).bs=_ from hbs1];simp))
    (fun b _ hne=>setRow_other w b1 b cur' (fun e'=>hne e')) (setRow_heap w b1 vs1 cur' T1 (0,0) hheap1) (by rw [hsz',hsz1]) hroom (fun j u hj => ?_) hrun
   rw [List.getElem?_append,ho1] at hj
   rw [hget]
   by_cases h3:j < List.length zs * e'.size
   ·rw [if_pos h3] at hj ⊢;exact ho2 j u hj
   ·rw [if_neg h3] at hj
    have:=bI hj
    rw [if_neg h3,if_pos (by omega)];exact hj
  ·have hrun:=run_append_grow (P:=P) w t ty te ti z hu hf.info hz ⟨b1,0,none⟩ (List.length zs) cap1 olds (by rw [ho1,hf.size])
    (fun j u hj=>by rw [Addr.add_lit,Nat.zero_add,cell_of_row w b1 _ vs1 T1 (0,0) hheap1];exact ho2 j u hj)
    ⟨b,o,none⟩ (List.length ys) cap cs (by rw [gU,hf.size]) hnews (by omega) (by omega) (growslice_fits (by omega) hbytes)
   have hc':List.length zs + List.length ys<=grownCap w (List.length zs + List.length ys) cap1 te:=grownCap_ge w _ _ _
   have hB:Below w.heap.size w (w.drew.alloc (.cells (olds.toArray++cs.toArray++Builtin.zeroCells z.cells (grownCap w (List.length zs + List.length ys) cap1 te - (List.length zs + List.length ys))) te)):=(Below.refl _ w).drew.alloc (Nat.le_refl _) _
   refine fin _ w.heap.size (grownCap w (List.length zs + List.length ys) cap1 te) _ te olds ho1 ho3 hB.os hB.output hB.size (.inr (Nat.le_refl _)) (fun b hlt _=>hB.block b hlt) (heap_alloc_new w.drew _) ?_ hc' (fun j u hj => ?_) hrun
   ·simp only [Array.size_append,List.size_toArray,size_zeroCells,hzs,gU,ho1,<-Nat.add_mul]
    congr 1;omega
   ·have hj':(olds.toArray++cs.toArray)[j]?=some u:=by
     rw [<-Array.getElem?_toList];simpa using hj
    rw [Array.getElem?_append,if_pos (by have:=(Array.getElem?_eq_some_iff.1 hj').1;exact this)]
    exact hj'
end
end Go.Vg

namespace Go.Vg
open Go.RowKit
def QX (a b:Int):Int:=if b < a then b else a
def QY (a b:Int):Int:=if b > a then b else a
def LW (mx:Bool) (x y:C) (K:C->VC):VC:=
 match x,y with
 | .d (.int k) a, .d (.int k') b=>match decide (k=k'),mx with
  | true,true=>K (.d (.int k) (QY a b))
  | true,false=>K (.d (.int k) (QX a b))
  | _,_ => .ff
 | _,_ => .ff
def rl (st:St) (env:List (Nat × SV)):List Operand->Option (List Nat)
 | []=>some []
 | x :: xs=>match eJ env x,rl st env xs with
  | .ref n 0,some ns=>match look st.aK n with
   | some (.cells _ _)=>some (n :: ns)
   | _=>none
  | _,_=>none
def N6 (cx:Cx) (st:St) (still:Bool) (f:C) (args:List dE) (K:SV->St->VC):VC:=
 match f with
 | .fn k caps=>match look cx.Γ k with
  | some (q,sp)=>match still && !q with
   | true => .ff
   | false=>sp (args++caps.map fun n => .one (.ref n 0)) st K
  | none => .ff
 | _ => .ff
def rm (cx:Cx) (d:Option Tmp):Bool:=
 match d with
 | some d=>oq d cx.hint
 | none=>false
def zZ (cx:Cx) (st:St) (o:Oper) (c:Call) (K:SV->St->VC):VC:=
 match c.callee with
 | .value f=>N6 cx st (rm cx o.dst) (eJ st.env f) (c.args.toList.map fun x=>qz st.env x) K
 | .builtin .append=>match c.args.toList,c.argTypes.toList with
  | [s,x],[t,t']=>match Nat.beq t t' with
   | true=>match eJ st.env s,eJ st.env x with
    | .xd n .top, .xd m .top=>CH cx st t n m K
    | .bE n,x=>match rm cx o.dst with
     | true=>zY cx st t n x K
     | false=>uf cx false st t (.bE n) x K
    | s,x=>uf cx (rm cx o.dst) st t s x K
   | false=>match look cx.τ t,look cx.τ t',eJ st.env s,eJ st.env x with
    | some (.slice (.int .u8)),some .str, .app e' xs n, .d .str ys=>AR st (.int .u8) (dH ys) e' xs n K
    | _,_,_,_ => .ff
  | _,_ => .ff
 | .builtin .copy=>match c.args.toList,c.argTypes.toList with
  | [d,s],[t,_]=>Gf cx st t (eJ st.env d) (eJ st.env s) K
  | _,_ => .ff
 | .builtin .max=>match c.args.toList with
  | [x,y]=>LW true (eJ st.env x) (eJ st.env y) fun c=>K (.s (.one c)) st
  | _ => .ff
 | .builtin .min=>match c.args.toList with
  | [x,y]=>LW false (eJ st.env x) (eJ st.env y) fun c=>K (.s (.one c)) st
  | _ => .ff
 | _=>oU cx st o.op fun sv=>K sv st
def bytesOf (ys:List Int):List UInt8:=ys.map fun n=>UInt8.ofNat n.toNat
def uj (st:St) (x:C) (K:C->VC):VC:=
 match wa st (.int .u8) x with
 | some ys => .and (ys.length<=aJ) (K (.d .str (bytesOf ys)))
 | none => .ff
def z1 (cx:Cx) (st:St) (o:Oper) (s t:TypeId) (x:Operand) (K:SV->St->VC):VC:=
 match look cx.τ s,look cx.τ t with
 | some (.slice (.int .u8)),some .str=>uj st (eJ st.env x) fun c=>K (.s (.one c)) st
 | _,some (.int _)=>oU cx st o.op fun sv=>K sv st
 | _,_ => .ff
def isRow:C->Bool
 | .bE _=>true
 | _=>false
def KO (st:St) (n:Nat) (ps:List (Nat × Operand)):Option dE:=
 match n,ps with
 | 1,[(0,x)]=>match qz st.env x with
  | .one (.bE m)=>some (.one (.bE m))
  | .agg cs=>match cs.any isRow with
   | true=>some (.agg cs)
   | false=>none
  | _=>none
 | _,_=>none
def LX (cx:Cx) (st:St) (o:Oper) (x:Operand) (K:SV->St->VC):VC:=
 match rm cx o.dst,ev st.env x with
 | true, .s (.one .jR)=>zX cx st x o.type K
 | _,_=>xW cx st x o.type K
def Dp (cx:Cx) (st:St) (t:TypeId) (n:Nat) (ps:List (Nat × Operand)) (K:SV->St->VC):VC:=
 match KO st n ps with
 | some v=>wj cx st t v K
 | none=>rj cx st t n ps fun c=>K (.s (.one c)) st
def Ua (cx:Cx) (st:St) (t:TypeId) (x:C) (v:dE) (K:SV->St->VC):VC:=
 match x with
 | .xd n (.cell i j)=>match look cx.τ t with
  | some ty=>wk st n i j ty v K
  | none => .ff
 | x=>CF cx st t x v K
def AZ (cx:Cx) (st:St) (o:Oper) (K:SV->St->VC):VC:=
 match o.op with
 | .convert s t x=>z1 cx st o s t x K
 | .move x=>xW cx st x o.type K
 | .assign x=>LX cx st o x K
 | .alloc t=>match look cx.rW t with
  | some e=>K (.s (.one (.eZ st.next))) (fresh st (.ext 2 kV ([],(t:Int),(e:Int),())))
  | none=>KJ cx st t K
 | .box t x=>SN cx st t (qz st.env x) K
 | .build t ps=>CG cx st t ps.toList fun sv=>K sv st
 | .buildSlice t n ps=>match rm cx o.dst with
  | true=>uh cx st t n ps.toList K
  | false=>Dp cx st t n ps.toList K
 | .makeSlice t l c=>sN cx st t (eJ st.env l) (eJ st.env c) K
 | .store t x v=>Ua cx st t (eJ st.env x) (qz st.env v) K
 | .makeFunc fn first caps=>match fn,first.toList,rl st st.env caps.toList with
  | .func f,[],some ns=>K (.s (.one (.fn f ns))) st
  | _,_,_ => .ff
 | .call c=>zZ cx st o c K
 | op=>oU cx st op fun sv=>K sv st
def wq (cx:Cx) (st:St) (o:Oper) (K:SV->St->VC):VC:=
 match AX cx st o K with
 | some vc=>vc
 | none=>AZ cx st o K
def kindOf (cx:Cx) (o:Oper):Nat:=
 match o.op with
 | .move _ | .assign _=>0
 | .convert _ t _=>match look cx.τ t with
  | some (.int _)=>0
  | _=>3
 | .pick _ _ _ | .unOp _ _ _ | .extract _ _ | .binOp _ _ _ _ _ | .makeInterface _ _ | .typeAssert _ _ _ _ | .index _ _ _ | .build _ _ | .nilCheck _ | .indexAddr _ _ _ | .fieldAddr _ _ _ | .slice _ _ _ _ _ | .makeFunc _ _ _=>0
 | .load _ _=>1
 | .alloc _ | .box _ _ | .buildSlice _ _ _ | .makeSlice _ _ _=>2
 | .call c=>match c.callee with
  | .builtin .len=>match c.argTypes.toList with
   | [t]=>match look cx.qc t with
    | some _=>3
    | none=>0
   | _=>0
  | .builtin .max=>0
  | .builtin .min=>0
  | .value (.func f)=>match look cx.Γ f with
   | some (true,_)=>2
   | _=>3
  | .value _=>match rm cx o.dst with
   | true=>2
   | false=>3
  | _=>3
 | _=>3
section
variable {X:Ext} {P:Program} {cx:Cx}
def FI (cx:Cx) (X:Ext) (O:aM) (K:SV->St->VC) (st:St) (S:bN) (loud:Bool) (a:Act) (dst:Option Tmp):Act->World->Prop:=
 fun a' w'=>∃v sv st' loc',a'=a.put dst v/\(K sv st').holds/\st'.env=st.env/\(loud=false->Below S.w.heap.size S.w w')/\Good cx.eT X (aB O st' loc' w')/\Tr S (aB O st' loc' w')/\eH cx.eT (aB O st' loc' w') sv v
structure dK (P:Program) (eT:TypeId) (X:Ext) (f:FuncId) (quiet:Bool) (sp:bQ):Prop where
 fn:∃fn,P.funcs[f]?=some fn/\fn.body.isNone=false/\(fn.name == "runtime.NumGoroutine")=false
 ok:∀O st loc w args vs K,(sp args st K).holds->Good eT X (aB O st loc w)->gv O w->dR eT (aB O st loc w) args vs->
  Calls P f vs.toArray w fun e w'=>∃v sv st' loc',e = .returned v/\(K sv st').holds/\st'.env=st.env/\(quiet=true->Below w.heap.size w w')/\Good eT X (aB O st' loc' w')/\
   Tr (aB O st loc w) (aB O st' loc' w')/\eH eT (aB O st' loc' w') sv v
structure ov (P:Program) (cx:Cx) (X:Ext):Prop extends TyOK P cx where
 calls:∀f q sp,look cx.Γ f=some (q,sp)->dK P cx.eT X f q sp
variable {Q:Exit->Act->World->Prop}
theorem fG {o:Oper} {a:Act} {w w':World} {v:Value} {Kw:Act->World->Prop} (h:(execOp a.eval o).run P w = .ok (.value v) w') (hk:Kw (a.put o.dst v) w'):o.wp P a w Kw Q:=by
 unfold Oper.wp;rw [h];exact hk
theorem Gn {f:FuncId} {fn:Func} (hfn:P.funcs[f]?=some fn) (hbody:fn.body.isNone=false) (hname:(fn.name == "runtime.NumGoroutine")=false) (args:Array Value) (w:World) :
  (callFunc f args).run P w = .ok (.enter f args) w:=by
 unfold callFunc
 simp only [Sem.run_bind,run_program,Result.andThen_ok,hfn,hname,hbody,Bool.false_eq_true,if_false,Sem.run_pure]
theorem wu {O:aM} {st:St} {loc:Nat->Loc} {w:World} {a:Act} (he:jg cx.eT (aB O st loc w) st.env a):∀{xs:List Operand} {ns:List Nat},rl st st.env xs=some ns->
  xs.map a.eval=ns.map (fun n=>(loc n).v)/\∀n∈ns,n < st.next/\(aB O st loc w).fixed n:=by
 intro xs
 induction xs with
 | nil=>intro ns h;simp [rl] at h;subst h;simp
 | cons x xs ih=>
  intro ns h
  simp only [rl] at h
  split at h
  ·rename_i n ns' hx hxs
   split at h
   ·rename_i T cs hob
    cases h
    obtain ⟨k1,k2⟩:=ih hxs
    have hr:=bS he x
    rw [hx] at hr
    obtain ⟨b,h1,h2⟩:=hr.2 _ _ hob
    refine ⟨by simp only [List.map_cons,k1];congr 1;rw [h2];exact h1.symm,fun m hm => ?_⟩
    rcases List.mem_cons.1 hm with rfl | hm
    ·exact ⟨hr.1,fun t ys e=>by simp only [aB] at e;rw [hob] at e;cases e⟩
    ·exact k2 m hm
   ·cases h
  ·cases h
theorem dR.append {eT:TypeId} {S:bN} {xs ys:List dE} {us vs:List Value} (h:dR eT S xs us) (h':dR eT S ys vs):dR eT S (xs++ys) (us++vs):=by
 induction h with
 | nil=>exact h'
 | cons h1 _ ih=>exact .cons h1 ih
theorem QZ {O:aM} {st:St} {loc:Nat->Loc} {w:World} (g:Good cx.eT X (aB O st loc w)):∀{ns:List Nat},(∀n∈ns,n < st.next)->dR cx.eT (aB O st loc w) (ns.map fun n => .one (.ref n 0)) (ns.map fun n=>(loc n).v):=by
 intro ns
 induction ns with
 | nil=>intro _;exact .nil
 | cons n ns ih=>
  intro h
  refine .cons ⟨h n (by simp),fun T cs hob => ?_⟩ (ih fun m hm=>h m (by simp [hm]))
  obtain ⟨_,b,vs,hl,_⟩:=g.obj _ _ hob
  exact ⟨b,hl,hl⟩
theorem Gp {S:bN} {env:List (Nat × SV)} {a:Act} (he:jg cx.eT S env a):∀(xs:List Operand),dR cx.eT S (xs.map fun x=>qz env x) (xs.map a.eval)
 | [] => .nil
 | x :: xs => .cons (l8 he x) (Gp he xs)
theorem uk {S:bN} {mx:Bool} {x y:C} {K:C->VC} {v1 v2:Value} (hx:CR cx.eT S x v1) (hy:CR cx.eT S y v2) (h:(LW mx x y K).holds) :
  ∃c v,(K c).holds/\CR cx.eT S c v/\∀w,(if mx then Builtin.max2 v1 v2 else Builtin.min2 v1 v2).run P w = .ok v w:=by
 unfold LW at h
 split at h
 ·rename_i k a k' b
  obtain ⟨rfl,ha⟩:=dG.1 hx
  obtain ⟨rfl,hb⟩:=dG.1 hy
  split at h
  ·rename_i hk
   simp at hk
   subst hk
   refine ⟨_,_,h,dG.2 ⟨rfl,?_⟩,fun w=>by simp [Builtin.max2,QY]⟩
   unfold QY;split <;> assumption
  ·rename_i hk
   simp at hk
   subst hk
   refine ⟨_,_,h,dG.2 ⟨rfl,?_⟩,fun w=>by simp [Builtin.min2,QX]⟩
   unfold QX;split <;> assumption
  ·exact h.elim
 ·exact h.elim
theorem foldl_push (ns:List Int):∀s:ByteArray,ns.foldl (fun r n=>r.push (UInt8.ofNat n.toNat)) s=⟨s.data++(bytesOf ns).toArray⟩:=by
 induction ns with
 | nil=>intro s;simp [bytesOf]
 | cons n ns ih=>
  intro s
  rw [List.foldl_cons,ih]
  simp [bytesOf,ByteArray.push]
theorem Te {eT:TypeId} {A:aM} {w:World} {ys:List Int} {cs:List Value} (hl:cs.length=ys.length) (h:gA eT (.int .u8) ys A w cs):cs=ys.map (Value.int .u8):=by
 apply List.ext_getElem?
 intro i
 cases hy:ys[i]? with
 | none=>
  have:ys.length<=i:=List.getElem?_eq_none_iff.1 hy
  rw [List.getElem?_eq_none (by omega),List.getElem?_eq_none (by simpa using this)]
 | some y=>
  obtain ⟨us,h1,h2⟩:=h i y hy
  obtain ⟨rfl,_⟩:=h1
  have:=h2 0 _ rfl
  simp only [Ty.size,Nat.mul_one,Nat.add_zero] at this
  rw [this,List.getElem?_map,hy]
  rfl
theorem CJ (hok:TyOK P cx) {O:aM} {st:St} {loc:Nat->Loc} {w:World} (g:Good cx.eT X (aB O st loc w)) {s t:TypeId} (hs:look cx.τ s=some (.slice (.int .u8))) (ht:look cx.τ t=some .str)
  {x:C} {v0:Value} (hx:CR cx.eT (aB O st loc w) x v0) {K:C->VC} (h:(uj st x K).holds) :
  ∃c v,(K c).holds/\CR cx.eT (aB O st loc w) c v/\(convert s t v0).run P w = .ok v w:=by
 obtain ⟨_,i1,d1,hf1,hs1⟩:=gx hok hs
 cases d1 <;> simp [cQ] at hs1
 rename_i te
 have hu:=hf1.jm
 obtain ⟨_,_,d3,_,hf3,hs3⟩:=lI hs1
 have hte:P.underlying te=some (.int .u8):=by
  cases d3 <;> simp [cQ] at hs3
  subst hs3;exact hf3.jm
 obtain ⟨_,i2,d2,hf2,hs2⟩:=gx hok ht
 have hd2:d2 = .string:=by cases d2 <;> simp [cQ] at hs2;rfl
 subst hd2
 unfold uj at h
 split at h
 ·rename_i ys hys
  obtain ⟨hlen,h⟩:=h
  refine ⟨_, .string ⟨(bytesOf ys).toArray⟩,h,kd.2 ⟨rfl,by simpa [bytesOf] using hlen⟩,?_⟩
  rcases ug g hys hx with ⟨rfl,a0,c0,rfl⟩ | ⟨b,o,cap,cs,rfl,h1,h2,h3,_⟩
  ·rcases a0 with _ | a0
   ·rw [run_convert_bytes_string w s t te none 0 c0 hu hte hf2.jm]
    rfl
   ·rw [run_convert_bytes_string w s t te _ _ _ hu hte hf2.jm]
    rw [run_bytesToString w a0 0 c0 [],foldl_push]
    ·simp
    ·have:=run_loadCells_list (P:=P) w a0 [] (fun j u hj=>by simp at hj)
     simpa using this
  ·rw [run_convert_bytes_string w s t te _ _ _ hu hte hf2.jm]
   simp only [Ty.size,Nat.mul_one] at h1
   have hcs:=Te h1 h3
   rw [run_bytesToString w ⟨b,o,none⟩ ys.length cap ys,foldl_push]
   ·simp
   ·rw [<-h1,run_loadCells_list w _ cs (fun j u hj=>by rw [Addr.add_lit];exact h2 j u hj),hcs]
 ·exact h.elim
theorem N7 (hok:ov P cx X) {O:aM} {st:St} {loc:Nat->Loc} {w:World} {a:Act} (g:Good cx.eT X (aB O st loc w)) (hO:gv O w) (he:jg cx.eT (aB O st loc w) st.env a)
  {o:Oper} {K:SV->St->VC} (h:(AZ cx st o K).holds):o.wp P a w (FI cx X O K st (aB O st loc w) (Nat.beq (kindOf cx o) 3) a o.dst) Q:=by
 have read:(oU cx st o.op fun sv=>K sv st).holds->o.wp P a w (FI cx X O K st (aB O st loc w) (Nat.beq (kindOf cx o) 3) a o.dst) Q:=by
  intro h
  obtain ⟨sv,v,h1,h2,h3⟩:=F8 hok.toTyOK g he h
  exact fG h3 ⟨v,sv,st,loc,rfl,h1,rfl,fun _=>Below.refl _ _,g,Tr.refl _,h2⟩
 have mov:∀x ty,(execOp a.eval o).run P w = .ok (.value (a.eval x)) w->(xW cx st x ty K).holds->o.wp P a w (FI cx X O K st (aB O st loc w) (Nat.beq (kindOf cx o) 3) a o.dst) Q:=by
  intro x ty hrun h
  obtain ⟨sv,st',loc',h1,h2,h3,h4,h5⟩:=yy g hO he h
  exact fG hrun ⟨_,sv,st',loc',rfl,h1,h2,fun _=>Below.refl _ _,h3,h4,h5⟩
 unfold AZ at h
 split at h
 ·rename_i s t x hop
  unfold z1 at h
  split at h
  ·rename_i hs ht
   obtain ⟨c,v,h1,h2,h3⟩:=CJ hok.toTyOK g hs ht (bS he x) h
   exact fG (w':=w) (by simp only [execOp,hop,Sem.run_bind,Sem.run_pure];rw [h3];rfl) ⟨v,_,st,loc,rfl,h1,rfl,fun _=>Below.refl _ _,g,Tr.refl _,h2⟩
  ·exact read h
  ·exact h.elim
 ·rename_i x hop
  exact mov x _ (by simp [execOp,hop]) h
 ·rename_i x hop
  unfold LX at h
  split at h
  ·obtain ⟨sv,st',loc',h1,h2,h3,h4,h5⟩:=wo g hO he h
   exact fG (w':=w) (v:=a.eval x) (by simp [execOp,hop]) ⟨_,sv,st',loc',rfl,h1,h2,fun _=>Below.refl _ _,h3,h4,h5⟩
  ·exact mov x _ (by simp [execOp,hop]) h
 ·rename_i t hop
  split at h
  ·rename_i e hslf
   obtain ⟨i,hi,hz⟩:=hok.rW t e hslf
   have hb:Below w.heap.size w (w.alloc (.cells #[.pointer none, .slice none 0 0] t)):=(Below.refl _ w).alloc (Nat.le_refl _) _
   obtain ⟨tr1,g1⟩:=gW (oc:=.ext 2 kV ([],(t:Int),(e:Int),())) (l:=⟨.pointer (some ⟨w.heap.size,0,none⟩),[w.heap.size]⟩) g hO hb (by simp)
   have g1:=g1 (X.SL.2 ⟨rfl,w.heap.size, .pointer none, .slice none 0 0,rfl, .inl rfl,heap_alloc_new w _,⟨by simp, .inl ⟨rfl,rfl⟩⟩,rfl,by simp [Value.ownBlock],(fun y hy=>by simp at hy),(fun a n c hh=>by cases hh)⟩)
   refine fG (w':=w.alloc (.cells #[.pointer none, .slice none 0 0] t)) (v:=.pointer (some ⟨w.heap.size,0,none⟩)) (by simp [execOp,hop,Instr.alloc,zeroValue,typeInfo,hi,hz,newVar,newRow,Value.cells])
    ⟨_,_,_,_,rfl,h,rfl,fun _=>hb,g1,tr1,⟨by simp [aB,fresh],fun oc hy hx => ?_⟩⟩
   simp [aB,cI]
  unfold KJ at h
  split at h
  ·rename_i ty ht
   obtain ⟨m,ti,d,hf,hs⟩:=gx hok.toTyOK ht
   obtain ⟨z,hz,hzr⟩:=hf.zero
   obtain ⟨sv,st',loc',h1,h2,h3,h4,h5⟩:=N1 (t:=t) (ts:=oE ty) g hO (lL hzr) h
   refine fG (w':=w.alloc (.cells z.cells.toList.toArray t)) ?_ ⟨_,sv,st',loc',rfl,h1,h2,fun _=>(Below.refl _ w).alloc (Nat.le_refl _) _,h3,h4,h5⟩
   simp [execOp,hop,Instr.alloc,zeroValue,typeInfo,hf.info,hz,newVar,newRow]
  ·split at h
   case h_2=>exact h.elim
   rename_i n te hn
   split at h
   case h_2=>exact h.elim
   rename_i e he
   split at h
   case h_2=>exact h.elim
   rename_i hno
   obtain ⟨i,z,hi,hz,hzr⟩:=hok.uc t n te e hn he
   have hb:Below w.heap.size w (w.alloc (.cells z.cells.toList.toArray t)):=(Below.refl _ w).alloc (Nat.le_refl _) _
   obtain ⟨tr1,g1⟩:=gW (oc:=.arr e (List.replicate n (bO e))) (l:=⟨.pointer (some ⟨w.heap.size,0,none⟩),[w.heap.size]⟩) g hO hb (by simp)
   obtain ⟨hl,hel⟩:=Gc (eT:=cx.eT) (A:=(aB O (fresh st (.arr e (List.replicate n (bO e)))) (cI loc st.next ⟨.pointer (some ⟨w.heap.size,0,none⟩),[w.heap.size]⟩) (w.alloc (.cells z.cells.toList.toArray t))).A) (w:=w.alloc (.cells z.cells.toList.toArray t)) hno hzr
   have g1:=g1 ⟨w.heap.size,z.cells.toList.toArray,t,rfl,rfl,heap_alloc_new w _,by simp only [List.size_toArray,List.length_replicate];exact hl,fun j y hy=>by
    obtain ⟨us,k1,k2⟩:=hel j y hy
    exact ⟨us,k1,fun q u hq=>by simpa using k2 q u hq⟩⟩
   refine fG (w':=w.alloc (.cells z.cells.toList.toArray t)) ?_ ⟨.pointer (some ⟨w.heap.size,0,none⟩),_,_,_,rfl,h,rfl,fun _=>hb,g1,tr1,?_⟩
   ·simp [execOp,hop,Instr.alloc,zeroValue,typeInfo,hi,hz,newVar,newRow]
   ·show st.next < st.next + 1/\_
    refine ⟨by omega,fun t' xs' hx => ?_⟩
    simp [aB,cI]
 ·rename_i t x hop
  unfold SN at h
  split at h
  ·rename_i ty ht
   split at h
   ·rename_i cs0 hfl
    obtain ⟨us,hus,hcr,_⟩:=rX g hfl (l8 he x)
    obtain ⟨sv,st',loc',h1,h2,h3,h4,h5⟩:=N1 (t:=t) (ts:=oE ty) g hO hcr h
    refine fG (w':=w.alloc (.cells us.toArray t)) ?_ ⟨_,sv,st',loc',rfl,h1,h2,fun _=>(Below.refl _ w).alloc (Nat.le_refl _) _,h3,h4,h5⟩
    subst hus
    simp [execOp,hop,Instr.box,newVar,newRow]
   ·exact h.elim
  ·exact h.elim
 ·rename_i t ps hop
  obtain ⟨sv,v,h1,h2,h3⟩:=vG hok.toTyOK g he h
  exact fG (by have:=h3 w;simp only [execOp,hop,Sem.run_bind,Sem.run_pure];rw [this];rfl) ⟨v,sv,st,loc,rfl,h1,rfl,fun _=>Below.refl _ _,g,Tr.refl _,h2⟩
 ·rename_i t n ps hop
  split at h
  ·obtain ⟨sv,v,st',loc',w',h1,h2,h3,h4,h5,h6,h7⟩:=zU hok.toTyOK g hO he h
   exact fG (by simp only [execOp,hop,Sem.run_bind,Sem.run_pure];rw [h7];rfl) ⟨v,sv,st',loc',rfl,h1,h3,fun _=>h2,h4,h5,h6⟩
  unfold Dp at h
  split at h
  ·rename_i sv0 hown
   have hp:∃x,n=1/\ps.toList = [(0,x)]/\jt cx.eT (aB O st loc w) sv0 (a.eval x):=by
    unfold KO at hown
    split at hown
    ·rename_i x hps
     have hr:=l8 he x
     split at hown
     ·rename_i m hm;cases hown;exact ⟨x,rfl,hps,by rw [<-hm];exact hr⟩
     ·rename_i cs hm
      split at hown
      ·cases hown;exact ⟨x,rfl,hps,by rw [<-hm];exact hr⟩
      ·cases hown
     ·cases hown
    ·cases hown
   obtain ⟨x,rfl,hps,hr⟩:=hp
   obtain ⟨sv,v,st',loc',w',h1,h2,h3,h4,h5,h6,h7⟩:=AU hok.toTyOK g hO hr h
   have hps':ps = #[(0,x)]:=Array.toList_inj.1 hps
   exact fG (w':=w') (v:=v) (by simp only [execOp,hop,Sem.run_bind,Sem.run_pure,hps'];rw [show (#[(0,x)]:Array (Nat × Operand)).map (fun (i,x)=>(i,a.eval x)) = #[(0,a.eval x)] from by simp,h7];rfl) ⟨v,sv,st',loc',rfl,h1,h2,fun _=>h3,h4,h5,h6⟩
  obtain ⟨c,v,w',h1,h2,h3,h4,h5,h6⟩:=wh hok.toTyOK g hO he h
  exact fG (by simp only [execOp,hop,Sem.run_bind,Sem.run_pure];rw [h6];rfl) ⟨v,_,st,loc,rfl,h1,rfl,fun _=>h2,h3,h4,h5⟩
 ·rename_i t l c hop
  obtain ⟨sv,v,st',loc',w',h1,h2,h3,h4,h5,h6,h7⟩:=yq hok.toTyOK g hO (bS he l) (bS he c) h
  exact fG (by simp only [execOp,hop,Sem.run_bind,Sem.run_pure];rw [h7];rfl) ⟨v,sv,st',loc',rfl,h1,h3,fun _=>h2,h4,h5,h6⟩
 ·rename_i t x v hop
  have hst:∃st' loc' w',(K (.s (.one .any)) st').holds/\st'.env=st.env/\Good cx.eT X (aB O st' loc' w')/\Tr (aB O st loc w) (aB O st' loc' w')/\(Instr.storeAt t (a.eval x) (a.eval v)).run P w = .ok () w':=by
   have hx:=bS he x
   unfold Ua at h
   split at h
   ·rename_i n i j hl
    rw [hl] at hx
    split at h
    ·rename_i ty ht
     obtain ⟨_,_,_,hf,_⟩:=gx hok.toTyOK ht
     exact AV g hO hf hx (l8 he v) h
    ·exact h.elim
   ·exact Fl hok.toTyOK g hO hx (l8 he v) h
  obtain ⟨st',loc',w',h1,h2,h3,h4,h5⟩:=hst
  have hrun:(execOp a.eval o).run P w = .ok .skip w':=by
   simp only [execOp,hop,Sem.run_bind,Sem.run_pure];rw [h5];rfl
  unfold Oper.wp
  rw [hrun]
  have hk:Nat.beq (kindOf cx o) 3=true:=by simp [kindOf,hop]
  exact ⟨undef,_,st',loc',rfl,h1,h2,fun e=>(by rw [hk] at e;cases e),h3,h4,trivial⟩
 ·rename_i fn first caps hop
  split at h
  ·rename_i f ns hfi hcn
   obtain ⟨k1,k2⟩:=wu he hcn
   have hfi':first = #[]:=Array.toList_inj.1 hfi
   have hca:caps.map a.eval=(ns.map fun n=>(loc n).v).toArray:=by
    apply Array.toList_inj.1
    rw [Array.toList_map,k1]
   refine fG (w':=w) (v:=.func (.func f) #[] (ns.map fun n=>(loc n).v).toArray) ?_ ⟨_,_,st,loc,rfl,h,rfl,fun _=>Below.refl _ _,g,Tr.refl _,⟨rfl,k2⟩⟩
   simp [execOp,hop,Instr.makeFunc,hfi',hca]
  ·exact h.elim
 ·rename_i c hop
  unfold zZ at h
  split at h
  ·rename_i f hcal
   unfold N6 at h
   split at h
   ·rename_i k caps hf
    split at h
    ·rename_i q sp hsp
     split at h
     ·exact h.elim
     rename_i hstill
     obtain ⟨⟨fn,hfn,hbody,hname⟩,hcall⟩:=hok.calls k q sp hsp
     have hr:=bS he f
     rw [hf] at hr
     obtain ⟨hfv,hcaps⟩:=hr
     have hargs:=(Gp he c.args.toList).append (QZ g (ns:=caps) fun n hn=>(hcaps n hn).1)
     have:=hcall O st loc w _ _ K h g hO hargs
     have hrun:(execOp a.eval o).run P w = .ok (.enter k (c.args.toList.map a.eval++caps.map fun n=>(loc n).v).toArray) w:=by
      have e1:(c.args.map a.eval)++(caps.map fun n=>((aB O st loc w).loc n).v).toArray=(c.args.toList.map a.eval++caps.map fun n=>(loc n).v).toArray:=by
       apply Array.toList_inj.1
       simp [aB]
      have e2:resolve a.eval c o.type=pure {target:=.fn (.func k) (caps.map fun n=>((aB O st loc w).loc n).v).toArray,args:=c.args.map a.eval}:=by
       simp [resolve,hcal,hfv,Deferred.ofValue]
      simp only [execOp,hop,e2,pure_bind,invoke,e1]
      exact Gn hfn hbody hname _ w
     unfold Oper.wp
     rw [hrun]
     refine Calls.mono this ?_
     rintro e w' ⟨v,sv,st',loc',rfl,k1,k2,k3,k4,k5,k6⟩
     refine ⟨v,sv,st',loc',rfl,k1,k2,fun hl => ?_,k4,k5,k6⟩
     cases q with
     | true=>exact k3 rfl
     | false=>
      exfalso
      have:kindOf cx o=3:=by
       unfold kindOf
       simp only [hop,hcal]
       split
       ·rename_i heq;cases heq
       ·rename_i heq;cases heq
       ·rename_i heq;cases heq
       ·rename_i f' heq
        have hfe:f = .func f':=by cases heq;rfl
        subst hfe
        simp only [eJ,ev] at hf
        cases hf
        rw [hsp]
       ·rw [show rm cx o.dst=false by simpa using hstill]
       ·rfl
      rw [this] at hl
      cases hl
    ·exact h.elim
   ·exact h.elim
  ·rename_i hcal
   split at h
   ·rename_i s x t t' harg hty
    split at h
    ·rename_i htt
     have htt:=Nat.eq_of_beq_eq_true htt
     subst htt
     have h1:c.args = #[s,x]:=Array.toList_inj.1 harg
     have h2:c.argTypes = #[t,t]:=Array.toList_inj.1 hty
     have happ:∃sv v st' loc' w',(K sv st').holds/\st'.env=st.env/\Good cx.eT X (aB O st' loc' w')/\Tr (aB O st loc w) (aB O st' loc' w')/\eH cx.eT (aB O st' loc' w') sv v/\
       (Builtin.append_ #[t,t] o.type #[a.eval s,a.eval x]).run P w = .ok v w':=by
      have hs:=bS he s
      have hx:=bS he x
      split at h
      ·rename_i n m hl1 hl2
       rw [hl1] at hs
       rw [hl2] at hx
       exact Fq hok.toTyOK g hO hs hx h
      ·rename_i n hl1
       rw [hl1] at hs
       split at h
       ·exact Gm hok.toTyOK g hO hs hx h
       ·exact tp (P:=P) (ty:=o.type) hok.toTyOK g hO hs hx h
      ·exact tp (P:=P) (ty:=o.type) hok.toTyOK g hO hs hx h
     obtain ⟨sv,v,st',loc',w',k1,k2,k3,k4,k5,k6⟩:=happ
     have hk:Nat.beq (kindOf cx o) 3=true:=by simp [kindOf,hop,hcal]
     refine fG (w':=w') (v:=v) ?_ ⟨v,sv,st',loc',rfl,k1,k2,fun e=>(by rw [hk] at e;cases e),k3,k4,k5⟩
     simp [execOp,hop,resolve,hcal,h1,h2,invoke,builtin,k6]
    ·split at h
     case h_2=>exact h.elim
     rename_i e' xs n ys ht1 ht2 hs1 hx1
     have h1:c.args = #[s,x]:=Array.toList_inj.1 harg
     have h2:c.argTypes = #[t,t']:=Array.toList_inj.1 hty
     obtain ⟨te,ti,td,hu,hf⟩:=ia hok.toTyOK ht1
     obtain ⟨z,hz,hzr⟩:=hf.zero
     have hzs:z.cells.size=(Ty.int .u8).size:=by rw [<-Array.length_toList];exact (lL (S:=aB O st loc w) (cx:=cx) hzr).length.symm.trans (jE _)
     have hs:=bS he s
     have hx:=bS he x
     rw [hs1] at hs
     rw [hx1] at hx
     obtain ⟨hx,hxl⟩:=kd.1 hx
     have hu':P.underlying t'=some .string:=xU hok.toTyOK ht2
     obtain ⟨sv,v,st',loc',w',k1,k2,k3,k4,k5,k6⟩:=sM (t:=t) (t':=t') (ty:=o.type) g hO hu hf hz hzs hs (wb.T8 hu hu' hf hz ys _ _) h
     have hk:Nat.beq (kindOf cx o) 3=true:=by simp [kindOf,hop,hcal]
     refine fG (w':=w') (v:=v) ?_ ⟨v,sv,st',loc',rfl,k1,k2,fun e=>(by rw [hk] at e;cases e),k3,k4,k5⟩
     simp [execOp,hop,resolve,hcal,h1,h2,invoke,builtin,hx,k6]
   ·exact h.elim
  ·rename_i hcal
   split at h
   ·rename_i d s t t' harg hty
    have h1:c.args = #[d,s]:=Array.toList_inj.1 harg
    have h2:c.argTypes = #[t,t']:=Array.toList_inj.1 hty
    obtain ⟨sv,v,st',loc',w',k1,k2,k3,k4,k5,k6⟩:=Gh (P:=P) (t':=t') (ty:=o.type) hok.toTyOK g hO (bS he d) (bS he s) h
    have hk:Nat.beq (kindOf cx o) 3=true:=by simp [kindOf,hop,hcal]
    refine fG (w':=w') (v:=v) ?_ ⟨v,sv,st',loc',rfl,k1,k2,fun e=>(by rw [hk] at e;cases e),k3,k4,k5⟩
    simp [execOp,hop,resolve,hcal,h1,h2,invoke,builtin,k6]
   ·exact h.elim
  ·rename_i hcal
   split at h
   ·rename_i x y harg
    have h1:c.args = #[x,y]:=Array.toList_inj.1 harg
    obtain ⟨c',v,k1,k2,k3⟩:=uk (P:=P) (bS he x) (bS he y) h
    refine fG (w':=w) (v:=v) ?_ ⟨v,_,st,loc,rfl,k1,rfl,fun _=>Below.refl _ _,g,Tr.refl _,k2⟩
    have k3:=k3 w
    simp only [if_true] at k3
    simp [execOp,hop,resolve,hcal,h1,invoke,builtin,Builtin.max_,k3]
   ·exact h.elim
  ·rename_i hcal
   split at h
   ·rename_i x y harg
    have h1:c.args = #[x,y]:=Array.toList_inj.1 harg
    obtain ⟨c',v,k1,k2,k3⟩:=uk (P:=P) (bS he x) (bS he y) h
    refine fG (w':=w) (v:=v) ?_ ⟨v,_,st,loc,rfl,k1,rfl,fun _=>Below.refl _ _,g,Tr.refl _,k2⟩
    have k3:=k3 w
    simp only [Bool.false_eq_true,if_false] at k3
    simp [execOp,hop,resolve,hcal,h1,invoke,builtin,Builtin.min_,k3]
   ·exact h.elim
  ·exact read h
 ·exact read h
theorem um {st:St} {o:Oper} {K:SV->St->VC} {vc:VC} (h:AX cx st o K=some vc):kindOf cx o=3:=by
 unfold AX at h
 split at h
 ·rename_i hop;simp [kindOf,hop]
 ·rename_i hop;simp [kindOf,hop]
 ·rename_i hop;simp [kindOf,hop]
 ·rename_i hop;simp [kindOf,hop]
 ·rename_i hop;simp [kindOf,hop]
 ·rename_i hop;simp [kindOf,hop]
 ·rename_i c hop
  split at h
  ·rename_i hcal;simp [kindOf,hop,hcal]
  ·rename_i hcal
   split at h
   ·rename_i x t harg hty
    split at h
    ·rename_i p hp;simp [kindOf,hop,hcal,hty,hp]
    ·cases h
   ·cases h
  ·cases h
 ·cases h
theorem Q0 (hok:ov P cx X) {O:aM} {st:St} {loc:Nat->Loc} {w:World} {a:Act} (g:Good cx.eT X (aB O st loc w)) (hO:gv O w) (he:jg cx.eT (aB O st loc w) st.env a)
  {o:Oper} {K:SV->St->VC} (h:(wq cx st o K).holds):o.wp P a w (FI cx X O K st (aB O st loc w) (Nat.beq (kindOf cx o) 3) a o.dst) Q:=by
 unfold wq at h
 split at h
 ·rename_i vc hm
  have hk:Nat.beq (kindOf cx o) 3=true:=by rw [um hm];rfl
  obtain ⟨sv,v,st',loc',w',h1,h2,h3,h4,h5,h6⟩:=Jc hok.toTyOK g hO he hm h
  rcases h6 with h6 | ⟨h6,rfl⟩
  ·exact fG h6 ⟨v,sv,st',loc',rfl,h1,h2,fun e=>(by rw [hk] at e;cases e),h3,h4,h5⟩
  ·unfold Oper.wp
   rw [h6]
   exact ⟨undef,_,st',loc',rfl,h1,h2,fun e=>(by rw [hk] at e;cases e),h3,h4,trivial⟩
 ·exact N7 hok g hO he h
end
end Go.Vg

namespace Go.Vg
open Go.RowKit
inductive qd (ops:Array Oper) (i:Nat):Nat->Prop
 | dir {j o e}:ops[j]?=some o->e∈o.after->Region.binds .any e=true->e.on=i->qd ops i j
 | step {j o e}:ops[j]?=some o->e∈o.after->Region.binds .any e=true->qd ops i e.on->qd ops i j
def tt (ops:Array Oper) (listed:Array Bool):Prop:=
 ∀j o,ops[j]?=some o->listed.getD j false=true->∀e∈o.after,Region.binds .any e=true->listed.getD e.on false=true
theorem qd.listed {ops:Array Oper} {listed:Array Bool} {i j:Nat} (h:qd ops i j) (hc:tt ops listed):(∀o,ops[j]?=some o->∀e∈o.after,Region.binds .any e=true->listed.getD e.on false=true)->listed.getD i false=true:=by
 induction h with
 | dir ho he hb hi=>intro hj;rw [<-hi];exact hj _ ho _ he hb
 | step ho he hb _ ih=>intro hj;exact ih fun o' ho'=>hc _ o' ho' (hj _ ho _ he hb)
def Gq (ms:List Nat) (o:Oper):Nat:=
 o.after.toList.foldl (fun s e=>match Region.binds .any e with
  | true=>s ||| (1 <<< e.on) ||| ms.getD e.on 0
  | false=>s) 0
def pB:List Oper->List Nat->List Nat
 | [],ms=>ms
 | o :: r,ms=>pB r (ms++[Gq ms o])
theorem A0 {k i:Nat} (h:(1 <<< k).testBit i=true):k=i:=by
 rw [Nat.one_shiftLeft,Nat.testBit_two_pow] at h
 simpa using h
theorem LY {ops:Array Oper} {ms:List Nat} (hms:∀j,j < ms.length->∀i,(ms.getD j 0).testBit i=true->qd ops i j) {j:Nat} {o:Oper} (ho:ops[j]?=some o) :
  ∀i,(Gq ms o).testBit i=true->qd ops i j:=by
 intro i hi
 unfold Gq at hi
 have key:∀(l:List Edge) (s:Nat),(∀e∈l,e∈o.after)->(s.testBit i=true->qd ops i j)->
   (l.foldl (fun s e=>match Region.binds .any e with | true=>s ||| (1 <<< e.on) ||| ms.getD e.on 0 | false=>s) s).testBit i=true->qd ops i j:=by
  intro l
  induction l with
  | nil=>intro s _ hs h;exact hs h
  | cons e l ih=>
   intro s hl hs h
   simp only [List.foldl_cons] at h
   refine ih _ (fun e' he'=>hl e' (by simp [he'])) ?_ h
   intro hb
   split at hb
   ·rename_i hbind
    rw [Nat.testBit_or,Nat.testBit_or] at hb
    simp only [Bool.or_eq_true] at hb
    rcases hb with (hb | hb) | hb
    ·exact hs hb
    ·exact .dir ho (hl e (by simp)) hbind (A0 hb)
    ·by_cases hlt:e.on < ms.length
     ·exact .step ho (hl e (by simp)) hbind (hms _ hlt i hb)
     ·rw [List.getD_eq_getElem?_getD,List.getElem?_eq_none (by omega)] at hb
      simp at hb
   ·exact hs hb
 exact key o.after.toList 0 (fun e he=>by simpa using he) (by simp) hi
theorem Jd {ops:Array Oper}:∀(r:List Oper) (ms:List Nat),(∀j,j < ms.length->∀i,(ms.getD j 0).testBit i=true->qd ops i j)->(∀k o,r[k]?=some o->ops[ms.length + k]?=some o)->
  ∀j i,((pB r ms).getD j 0).testBit i=true->qd ops i j:=by
 intro r
 induction r with
 | nil=>
  intro ms hms _ j i h
  by_cases hlt:j < ms.length
  ·exact hms j hlt i h
  ·simp only [pB] at h
   rw [List.getD_eq_getElem?_getD,List.getElem?_eq_none (by omega)] at h
   simp at h
 | cons o r ih=>
  intro ms hms hr
  refine ih _ ?_ ?_
  ·intro j hj i h
   rw [List.length_append,List.length_singleton] at hj
   by_cases hlt:j < ms.length
   ·rw [List.getD_eq_getElem?_getD,List.getElem?_append_left hlt,<-List.getD_eq_getElem?_getD] at h
    exact hms j hlt i h
   ·have e:j=ms.length:=by omega
    subst e
    rw [List.getD_eq_getElem?_getD,List.getElem?_append_right (Nat.le_refl _)] at h
    simp only [Nat.sub_self,List.getElem?_cons_zero,Option.getD_some] at h
    exact LY hms (by simpa using hr 0 o rfl) i h
  ·intro k o' hk
   have:=hr (k + 1) o' (by simpa using hk)
   rw [List.length_append,List.length_singleton,show ms.length + 1 + k=ms.length + (k + 1) from by omega]
   exact this
def jb (ops:List Oper):List Nat:=pB ops []
theorem N8 {ops:Array Oper} {i j:Nat} (h:((jb ops.toList).getD j 0).testBit i=true):qd ops i j:=
 Jd ops.toList [] (fun j hj=>by simp at hj) (fun k o hk=>by simpa using hk) j i h
def fH (w:World) (A:aM) (w':World) (A':aM):Prop:=∀b o v,¬ A b o->w.cell? ⟨b,o,none⟩=some v->w'.cell? ⟨b,o,none⟩=some v/\¬ A' b o
theorem fH.refl (w:World) (A:aM):fH w A w A:=fun _ _ _ h h'=>⟨h',h⟩
theorem fH.trans {w1 w2 w3:World} {A1 A2 A3:aM} (h:fH w1 A1 w2 A2) (h':fH w2 A2 w3 A3):fH w1 A1 w3 A3:=fun b o v h1 h2=>have k:=h b o v h1 h2;h' b o v k.2 k.1
abbrev z6:=World->aM->World->aM->Prop
section
variable {P:Program} {ops:Array Oper} {Q:Exit->Act->World->Prop} {loud:Nat->Bool}
def wpS (P:Program) (ops:Array Oper) (loud:Nat->Bool) (Q:Exit->Act->World->Prop):Nat->Array Bool->Act->World->aM->Prop
 | 0,listed,a,w,_=>Region.ready .any ops listed = []/\Q .normal a w
 | n + 1,listed,a,w,A=>(Region.ready .any ops listed = []->Q .normal a w)/\
  ∀i∈Region.ready .any ops listed,wpOp P ops Q i (fun a' w'=>(loud i=false->Below w.heap.size w w')/\∃A',fH w A w' A'/\wpS P ops loud Q n (listed.setIfInBounds i true) a' w' A') a w
theorem KP:∀(n:Nat) (listed:Array Bool) (a:Act) (w:World) (A:aM),wpS P ops loud Q n listed a w A->wpAny P .any ops Q n listed a w
 | 0,_,_,_,_,h=>h
 | n + 1,_,_,_,_,h=>⟨h.1,fun i hi=>wpOp_mono (fun a' w' h'=>let ⟨A',_,h2⟩:=h'.2;KP n _ a' w' A' h2) (h.2 i hi)⟩
def ji (P:Program) (ops:Array Oper) (C:z6) (o:Oper) (v:Value) (a:Act) (w:World) (A:aM):Prop:=
 (Region.wanted o (yielded ops a.tmps)=true/\∀w' A',C w A w' A'->(execOp a.eval o).run P w' = .ok (.value v) w')\/
 (Region.wanted o (yielded ops a.tmps)=false/\v=undef)
theorem ji.of_same {C:z6} (ht:∀a A b B c D,C a A b B->C b B c D->C a A c D) {o:Oper} {v:Value} {a a':Act} {w w':World} {A A':aM} (hy:ji P ops C o v a w A) (hc:C w A w' A') (he:execOp a'.eval o=execOp a.eval o)
  (hw:Region.wanted o (yielded ops a'.tmps)=Region.wanted o (yielded ops a.tmps)):ji P ops C o v a' w' A':=by
 unfold ji at *
 rw [he,hw]
 rcases hy with ⟨h1,h2⟩ | h
 ·exact .inl ⟨h1,fun w'' A'' hc'=>h2 w'' A'' (ht _ _ _ _ _ _ hc hc')⟩
 ·exact .inr h
theorem N9 {C:z6} (ht:∀a A b B c D,C a A b B->C b B c D->C a A c D) {j:Nat} {oi oj:Oper} {v:Value} (hj:ops[j]?=some oj) (hap:oi.apart ops oj=true)
  (hsi:∀cs b,oi.op≠.select cs b) (hsj:∀cs b,oj.op≠.select cs b)
  (hQ:∀c a w,Q (.panic c) (a.put oi.dst v) w->Q (.panic c) a w) {K:Act->World->aM->Prop} {a:Act} {w:World} {A:aM} (hCw:∀w' A',(loud j=false->Below w.heap.size w w')->fH w A w' A'->C w A w' A')
  (hy:ji P ops C oi v a w A) (h:wpOp P ops Q j (fun a' w'=>(loud j=false->Below w.heap.size w w')/\∃A',fH w A w' A'/\K a' w' A') (a.put oi.dst v) w) :
  wpOp P ops Q j (fun a' w'=>(loud j=false->Below w.heap.size w w')/\∃A',fH w A w' A'/\ji P ops C oi v a' w' A'/\K (a'.put oi.dst v) w' A') a w:=by
 obtain ⟨h1,h2,h3⟩:=Oper.apart_spec hap
 have aX:∀(a:Act) (w':World) (A':aM),ji P ops C oi v a w A->C w A w' A'->∀u,ji P ops C oi v (a.put oj.dst u) w' A':=fun a w' A' hy hc u=>
  hy.of_same ht hc (execOp_put oi hsi a oj.dst u h3) (wanted_put oi a oj.dst u h3)
 have keepD:∀d,ji P ops C oi v {a with defers:=d :: a.defers} w A:=fun d=>by
  unfold ji at *;exact hy
 have fin:∀(u:Value) (w':World),((loud j=false->Below w.heap.size w w')/\∃A',fH w A w' A'/\K ((a.put oi.dst v).put oj.dst u) w' A')->
   (loud j=false->Below w.heap.size w w')/\∃A',fH w A w' A'/\ji P ops C oi v (a.put oj.dst u) w' A'/\K ((a.put oj.dst u).put oi.dst v) w' A':=by
  rintro u w' ⟨k1,A',k2,k3⟩
  exact ⟨k1,A',k2,aX a w' A' hy (hCw _ _ k1 k2) u,by rw [<-Act.put_comm a v u h2];exact k3⟩
 unfold wpOp at *
 simp only [hj] at *
 rw [wanted_put oj a oi.dst v h1] at h
 split
 ·rename_i hw
  simp only [hw,if_true] at h
  rcases h with h | ⟨hasks,hlets⟩
  case inr=>exact .inr ⟨by unfold Oper.asks at *;rw [execOp_put oj hsj a oi.dst v h1] at hasks;exact hasks,hlets⟩
  refine .inl ?_
  unfold Oper.wp at *
  rw [execOp_put oj hsj a oi.dst v h1] at h
  generalize (execOp a.eval oj).run P w=r at *
  cases r with
  | ok n w'=>
   cases n <;> simp only [Oper.upon] at h ⊢
   case value u=>exact fin u w' h
   case skip=>exact fin _ w' h
   case defer d=>
    obtain ⟨k1,A',k2,k3⟩:=h
    refine ⟨k1,A',k2,aX _ w' A' (keepD d) (hCw _ _ k1 k2) _,?_⟩
    rw [<-Act.put_comm _ v undef h2,<-Act.put_defers]
    exact k3
   case enter f args=>
    refine Calls.mono h fun e w'' he => ?_
    cases e with
    | returned u=>exact fin u w'' he
    | panicked c=>exact hQ _ _ _ he
    | outgrown=>exact he
   case row row args=>exact Rows.mono h fun u w'' he=>fin u w'' he
  | halt x w'=>
   cases x <;> simp only [Oper.upon] at h ⊢
   case panic u=>exact hQ _ _ _ h
 ·rename_i hw
  simp only [hw] at h
  exact fin _ w h
theorem ji.wpOp {C:z6} (hr:∀w A,C w A w A) {i:Nat} {o:Oper} {v:Value} {a:Act} {w:World} {A:aM} (hi:ops[i]?=some o) (hy:ji P ops C o v a w A)
  {K:Act->World->aM->Prop} (h:K (a.put o.dst v) w A):wpOp P ops Q i (fun a' w'=>(loud i=false->Below w.heap.size w w')/\∃A',fH w A w' A'/\K a' w' A') a w:=by
 unfold Go.wpOp
 simp only [hi]
 rcases hy with ⟨hw,hv⟩ | ⟨hw,rfl⟩
 ·simp only [hw,if_true,Oper.wp,hv w A (hr w A),Oper.upon];exact .inl ⟨fun _=>Below.refl _ _,A,fH.refl _ _,h⟩
 ·simp only [hw,Bool.false_eq_true,if_false];exact ⟨fun _=>Below.refl _ _,A,fH.refl _ _,h⟩
theorem uo {listed:Array Bool} {i:Nat} (hc:tt ops listed) (hr:i∈Region.ready .any ops listed):tt ops (listed.setIfInBounds i true):=by
 intro j o ho hj e he hb
 by_cases hij:i=j
 ·subst hij
  obtain ⟨_,o',ho',hall⟩:=mem_ready.1 hr
  rw [ho] at ho'
  cases ho'
  exact getD_set_true (hall e he hb)
 ·rw [getD_set_ne false hij] at hj
  exact getD_set_true (hc j o ho hj e he hb)
theorem Oa {C:z6} (hrefl:∀w A,C w A w A) (ht:∀a A b B c D,C a A b B->C b B c D->C a A c D) {i:Nat} {oi:Oper} {v:Value} (hi:ops[i]?=some oi)
  (hsel:∀(j:Nat) (o:Oper) cs b,ops[j]?=some o->o.op≠.select cs b)
  (hQ:∀c a w,Q (.panic c) (a.put oi.dst v) w->Q (.panic c) a w) :
  ∀(fuel:Nat) (listed:Array Bool) (a:Act) (w:World) (A:aM),tt ops listed->
   (∀j oj,ops[j]?=some oj->j≠i->listed.getD j true=false->(∀e∈oj.after,Region.binds .any e=true->e.on≠i)->oi.apart ops oj=true)->
   ((∀w A w' A',fH w A w' A'->C w A w' A')\/((∀w A w' A',Below w.heap.size w w'->C w A w' A')/\∀j,listed.getD j true=false->j≠i->loud j=true->qd ops i j))->
   i∈Region.ready .any ops listed->ji P ops C oi v a w A->
   wpS P ops loud Q fuel (listed.setIfInBounds i true) (a.put oi.dst v) w A->wpS P ops loud Q (fuel + 1) listed a w A:=by
 intro fuel
 induction fuel with
 | zero=>
  intro listed a w A _ _ _ hr hy H
  refine ⟨fun h=>(by rw [h] at hr;cases hr),fun j hj => ?_⟩
  by_cases hji:j=i
  ·subst hji;exact hy.wpOp hrefl hi H
  ·have:=ready_mono hj hji
   rw [H.1] at this
   cases this
 | succ fuel ih=>
  intro listed a w A gU hfree hC hr hy H
  refine ⟨fun h=>(by rw [h] at hr;cases hr),fun j hj => ?_⟩
  by_cases hji:j=i
  ·subst hji;exact hy.wpOp hrefl hi H
  ·have h1:=H.2 j (ready_mono hj hji)
   obtain ⟨hjun,oj,hoj,hall⟩:=mem_ready.1 hj
   have hiun:listed.getD i false≠true:=by
    have h0:=(mem_ready.1 hr).1
    rcases Nat.lt_or_ge i listed.size with h' | h'
    ·simp [h'] at h0 ⊢;exact h0
    ·simp [Array.getElem?_eq_none h']
   have hnot:∀e∈oj.after,Region.binds .any e=true->e.on≠i:=fun e he hb heq=>hiun (heq▸hall e he hb)
   have hCw:∀w' A',(loud j=false->Below w.heap.size w w')->fH w A w' A'->C w A w' A':=by
    intro w' A' hb hd
    rcases hC with hC | ⟨hC1,hC2⟩
    ·exact hC w A w' A' hd
    ·refine hC1 w A w' A' (hb ?_)
     cases hl:loud j
     ·rfl
     ·exact absurd ((hC2 j hjun hji hl).listed gU (fun o ho=>by rw [hoj] at ho;cases ho;exact hall)) hiun
   have h2:=N9 ht hoj (hfree j oj hoj hji hjun hnot) (fun cs b=>hsel i oi cs b hi) (fun cs b=>hsel j oj cs b hoj) hQ hCw hy h1
   have hfree':∀k ok,ops[k]?=some ok->k≠i->(listed.setIfInBounds j true).getD k true=false->
     (∀e∈ok.after,Region.binds .any e=true->e.on≠i)->oi.apart ops ok=true:=fun k ok hk hki hun hno=>by
    refine hfree k ok hk hki ?_ hno
    by_cases hjk:j=k
    ·subst hjk;exact hjun
    ·rw [getD_set_ne true hjk] at hun;exact hun
   have hC':(∀w A w' A',fH w A w' A'->C w A w' A')\/((∀w A w' A',Below w.heap.size w w'->C w A w' A')/\∀k,(listed.setIfInBounds j true).getD k true=false->k≠i->loud k=true->qd ops i k):=by
    rcases hC with hC | ⟨hC1,hC2⟩
    ·exact .inl hC
    ·refine .inr ⟨hC1,fun k hk=>hC2 k ?_⟩
     by_cases hjk:j=k
     ·subst hjk;exact hjun
     ·rw [getD_set_ne true hjk] at hk;exact hk
   refine wpOp_mono (fun a' w' h3 => ?_) h2
   obtain ⟨k1,A',k2,k3,k4⟩:=h3
   refine ⟨k1,A',k2,ih (listed.setIfInBounds j true) a' w' A' (uo gU hj) hfree' hC' (ready_mono hr (Ne.symm hji)) k3 ?_⟩
   rw [Array.setIfInBounds_comm _ _ hji]
   exact k4
end
end Go.Vg

namespace Go.Vg
open Go.RowKit
def A4 (cx:Cx) (st:St) (dst:Option Tmp) (sv:SV) (K:St->VC):VC:=
 match dst with
 | some d=>match Nat.blt d cx.N with
  | true=>K {st with env:=(d,sv) :: st.env}
  | false => .ff
 | none=>K st
def Vf:Bool->Bool->Bool
 | true,b=>b
 | false,true=>false
 | false,false=>true
def nh (st:St) (d:Nat) (b:Bool):St:={st with env:=(d, .s (.one (.lit b))) :: st.env}
def xX (opl:List Oper) (st:St) (o:Oper) (exec skip:St->VC):VC:=
 match o.guard with
 | none=>exec st
 | some (j,want)=>match opl[j]? with
  | some oj=>match oj.dst with
   | some d=>match look st.env d with
    | some (.s (.one (.lit b)))=>match Vf b want with
     | true=>exec st
     | false=>skip st
    | some (.s (.one (.d .bool g)))=>match want with
     | true => .ite g (exec (nh st d true)) (skip (nh st d false))
     | false => .ite g (skip (nh st d true)) (exec (nh st d false))
    | some (.nx [])=>skip st
    | _ => .ff
   | none => .ff
  | none => .ff
def mA (cx:Cx) (opl:List Oper) (st:St) (o:Oper) (K:St->VC):VC:=
 xX opl st o (fun st=>wq cx st o fun sv st'=>A4 cx st' o.dst sv K) (fun st=>A4 cx st o.dst (.nx []) K)
def FJ (cx:Cx) (opl:List Oper):List Oper->St->(St->VC)->VC
 | [],st,K=>K st
 | o :: r,st,K=>mA cx opl st o fun st'=>FJ cx opl r st' K
def kH (cx:Cx) (opl:List Oper) (j:Nat):Bool:=
 match opl[j]? with
 | some o=>Nat.beq (kindOf cx o) 3
 | none=>false
def tu (cx:Cx) (opl:List Oper) (ms:List Nat) (listed:Array Bool) (i:Nat):Bool:=
 match opl[i]? with
 | some o=>match kindOf cx o with
  | 0=>true
  | 1=>(List.range opl.length).all fun j=>Nat.beq j i || listed.getD j true || !(kH cx opl j) || (ms.getD j 0).testBit i
  | _=>false
 | none=>false
def uq (cx:Cx) (ops:Array Oper) (st:St) (i:Nat):Bool:=
 match ops[i]? with
 | some o=>match o.op,o.guard with
  | .load _ x,none=>match eJ st.env x with
   | .oO _ _=>true
   | _=>false
  | _,_=>false
 | none=>false
def FK:List Nat->(Nat->VC)->VC
 | [],_ => .leaf True
 | [i],f=>f i
 | i :: j :: r,f => .both (f i) (FK (j :: r) f)
def ml (cx:Cx) (ops:Array Oper) (ms:List Nat):Nat->Array Bool->St->(St->VC)->VC
 | 0,listed,st,K=>match Region.ready .any ops listed with
  | []=>K st
  | _ => .ff
 | n + 1,listed,st,K=>match Region.ready .any ops listed with
  | []=>K st
  | r :: rs=>match (r :: rs).find? (fun i=>tu cx ops.toList ms listed i || uq cx ops st i) with
   | some i=>match ops[i]? with
    | some o=>mA cx ops.toList st o fun st'=>ml cx ops ms n (listed.setIfInBounds i true) st' K
    | none => .ff
   | none=>FK (r :: rs) fun i=>match ops[i]? with
    | some o=>mA cx ops.toList st o fun st'=>ml cx ops ms n (listed.setIfInBounds i true) st' K
    | none => .ff
def z7 (o:Oper):Nat:=o.after.toList.foldl (fun s e=>match Region.binds .any e with
 | true=>s ||| (1 <<< e.on)
 | false=>s) 0
def Oc (am m i:Nat):Bool:=!(m.testBit i) && Nat.beq (am &&& m) am
def nG:List Nat->Nat->Nat->List Nat
 | [],_,_=>[]
 | am :: r,m,i=>match Oc am m i with
  | true=>i :: nG r m (i + 1)
  | false=>nG r m (i + 1)
def ur (m i:Nat):List Bool->List Nat->Nat->Bool
 | l :: ls,a :: ms,j=>match l && (!(Nat.beq j i) && (!(m.testBit j) && !(a.testBit i))) with
  | true=>false
  | false=>ur m i ls ms (j + 1)
 | _,_,_=>true
def xY (ks:List Nat) (ls:List Bool) (ms:List Nat) (m i:Nat):Bool:=
 match ks.getD i 2 with
 | 0=>true
 | 1=>ur m i ls ms 0
 | _=>false
def anyM (cx:Cx) (ops:Array Oper) (am ks:List Nat) (ls:List Bool) (ms:List Nat):Nat->Nat->St->(St->VC)->VC
 | 0,m,st,K=>match nG am m 0 with
  | []=>K st
  | _ => .ff
 | n + 1,m,st,K=>match nG am m 0 with
  | []=>K st
  | r :: rs=>match (r :: rs).find? (fun i=>xY ks ls ms m i || uq cx ops st i) with
   | some i=>match ops[i]? with
    | some o=>mA cx ops.toList st o fun st'=>anyM cx ops am ks ls ms n (m ||| (1 <<< i)) st' K
    | none => .ff
   | none=>FK (r :: rs) fun i=>match ops[i]? with
    | some o=>mA cx ops.toList st o fun st'=>anyM cx ops am ks ls ms n (m ||| (1 <<< i)) st' K
    | none => .ff
def Ub (cx:Cx) (ops:Array Oper) (st:St) (K:St->VC):VC:=
 anyM cx ops (ops.toList.map z7) (ops.toList.map (kindOf cx)) (ops.toList.map fun o=>Nat.beq (kindOf cx o) 3) (jb ops.toList) ops.size 0 st K
def CK (oj:Oper) (i:Nat):Bool:=oj.after.any fun e=>Region.binds .any e && Nat.beq e.on i
def uu (ops:Array Oper):Bool:=
 Region.noSelect ops && (List.range ops.size).all fun i=>(List.range ops.size).all fun j=>match ops[i]?,ops[j]? with
  | some oi,some oj=>Nat.beq j i || CK oj i || CK oi j || oi.apart ops oj
  | _,_=>true
section
variable {X:Ext} {P:Program} {cx:Cx} {Q:Exit->Act->World->Prop}
structure ju (cx:Cx) (S:bN) (st:St) (a:Act):Prop where
 size:a.tmps.size=cx.N
 defers:a.defers = []
 env:jg cx.eT S st.env a
def allM:Nat:=4000000
def n5 (W:List Nat) (st st':St):Prop:=allM∉W->∀t,t∉W->∀v,look st'.env t=some v->look st.env t=some v
def gM (cx:Cx) (X:Ext) (O:aM) (K:St->VC) (W:List Nat) (st:St) (S:bN):Act->World->Prop:=
 fun a' w'=>∃st' loc',(K st').holds/\Good cx.eT X (aB O st' loc' w')/\Tr S (aB O st' loc' w')/\ju cx (aB O st' loc' w') st' a'/\n5 W st st'
theorem jg.tr {S S':bN} {env:List (Nat × SV)} {a:Act} (h:jg cx.eT S env a) (t:Tr S S'):jg cx.eT S' env a:=fun i sv hi=>(h i sv hi).tr t
theorem ju.put {S S':bN} {st st':St} {a:Act} {d:Nat} {v:Value} {sv:SV} (h:ju cx S st a) (t:Tr S S') (he:st'.env=(d,sv) :: st.env) (hd:d < cx.N) (hv:eH cx.eT S' sv v):ju cx S' st' (a.put (some d) v):=by
 refine ⟨by simp [Act.put,h.size],h.defers,fun i sv' hi => ?_⟩
 rw [he,cV] at hi
 simp only [Act.put]
 by_cases e:d=i
 ·rw [if_pos e] at hi
  cases hi
  subst e
  rw [Array.getD_eq_getD_getElem?,Array.getElem?_setIfInBounds,if_pos rfl,if_pos (by rw [h.size];exact hd)]
  exact hv
 ·rw [if_neg e] at hi
  rw [Array.getD_eq_getD_getElem?,Array.getElem?_setIfInBounds,if_neg e,<-Array.getD_eq_getD_getElem?]
  exact (h.env i sv' hi).tr t
theorem nH {O:aM} {st st0:St} {S:bN} {loc:Nat->Loc} {w:World} {a:Act} {dst:Option Tmp} {sv:SV} {v:Value} {K:St->VC} {W:List Nat} (h:(A4 cx st dst sv K).holds)
  (hA:ju cx S st0 a) (ht:Tr S (aB O st loc w)) (he:st.env=st0.env) (hv:eH cx.eT (aB O st loc w) sv v) (g:Good cx.eT X (aB O st loc w)) (hW:∀d,dst=some d->d∈W) :
  gM cx X O K W st0 S (a.put dst v) w:=by
 unfold A4 at h
 split at h
 ·rename_i d
  split at h
  ·rename_i hd
   refine ⟨{st with env:=(d,sv) :: st.env},loc,h,g,ht,?_,fun _ t htW v hv => ?_⟩
   ·have:=hA.put (st':={st with env:=(d,sv) :: st.env}) ht (by rw [<-he]) (nE hd) hv
    exact ⟨this.size,this.defers,this.env⟩
   ·have hv:look ((d,sv) :: st.env) t=some v:=hv
    rw [cV,if_neg (fun (e:d=t)=>htW (e▸hW d rfl)),he] at hv
    exact hv
  ·exact h.elim
 ·refine ⟨st,loc,h,g,ht,⟨hA.size,hA.defers,by rw [he];exact hA.env.tr ht⟩,fun _ t _ v hv=>by rw [he] at hv;exact hv⟩
theorem Tf (a b:Bool):Vf a b=(a == b):=by cases a <;> cases b <;> rfl
theorem Od {O:aM} {st:St} {loc:Nat->Loc} {w:World} {a:Act} {d:Nat} {b:Bool} (hA:ju cx (aB O st loc w) st a) (hv:a.tmps.getD d undef = .bool b) :
  ju cx (aB O (nh st d b) loc w) (nh st d b) a:=by
 refine ⟨hA.size,hA.defers,fun i sv hi => ?_⟩
 simp only [nh,cV] at hi
 by_cases e:d=i
 ·rw [if_pos e] at hi
  cases hi
  subst e
  rw [hv];rfl
 ·rw [if_neg e] at hi
  exact hA.env i sv hi
theorem Gr {ops:Array Oper} {a:Act} {j d:Nat} {oj:Oper} {b:Bool} (hj:ops[j]?=some oj) (hd:oj.dst=some d) (hlt:d < a.tmps.size) (hv:a.tmps.getD d undef = .bool b):yielded ops a.tmps j=some b:=by
 have:a.tmps[d]?=some (.bool b):=by
  rw [Array.getElem?_eq_getElem hlt]
  rw [Array.getD_eq_getD_getElem?,Array.getElem?_eq_getElem hlt] at hv
  simpa using hv
 simp [yielded,hj,hd,this]
theorem vI {O:aM} {st:St} {loc:Nat->Loc} {w:World} {a:Act} {ops:Array Oper} {o:Oper} {exec skip:St->VC} {W:List Nat} (hA:ju cx (aB O st loc w) st a) (g:Good cx.eT X (aB O st loc w))
  (hW:∀(j:Nat) (oj:Oper) (d:Nat),ops[j]?=some oj->oj.dst=some d->d∈W)
  (h:(xX ops.toList st o exec skip).holds) :
  ∃st',ju cx (aB O st' loc w) st' a/\Good cx.eT X (aB O st' loc w)/\aB O st' loc w=aB O st loc w/\n5 W st st'/\
   ((Region.wanted o (yielded ops a.tmps)=true/\(exec st').holds)\/(Region.wanted o (yielded ops a.tmps)=false/\(skip st').holds)):=by
 unfold xX at h
 split at h
 ·rename_i hg
  exact ⟨st,hA,g,rfl,fun _ _ _ _ h=>h, .inl ⟨by simp [Region.wanted,hg],h⟩⟩
 ·rename_i j want hg
  split at h
  ·rename_i oj hj
   have hj':ops[j]?=some oj:=by rw [<-Array.getElem?_toList];exact hj
   split at h
   ·rename_i d hd
    have key:∀b,a.tmps.getD d undef = .bool b->Region.wanted o (yielded ops a.tmps)=(b == want):=by
     intro b hb
     have hlt:d < a.tmps.size:=by
      rcases Nat.lt_or_ge d a.tmps.size with h' | h'
      ·exact h'
      ·rw [Array.getD_eq_getD_getElem?,Array.getElem?_eq_none h'] at hb;cases hb
     simp [Region.wanted,hg,Gr hj' hd hlt hb]
    have lit:∀b,a.tmps.getD d undef = .bool b->ju cx (aB O (nh st d b) loc w) (nh st d b) a/\Good cx.eT X (aB O (nh st d b) loc w)/\aB O (nh st d b) loc w=aB O st loc w/\n5 W st (nh st d b):=
     fun b hb=>⟨Od hA hb,g,rfl,fun _ t ht v hv=>by simp only [nh,cV] at hv;rwa [if_neg (fun (e:d=t)=>ht (e▸hW j oj d hj' hd))] at hv⟩
    split at h
    ·rename_i b hl
     have hv:a.tmps.getD d undef = .bool b:=hA.env d _ hl
     have hk:=key b hv
     rw [<-Tf] at hk
     split at h
     ·rename_i he;exact ⟨st,hA,g,rfl,fun _ _ _ _ h=>h, .inl ⟨by rw [hk,he],h⟩⟩
     ·rename_i he;exact ⟨st,hA,g,rfl,fun _ _ _ _ h=>h, .inr ⟨by rw [hk,he],h⟩⟩
    ·rename_i b hl
     have hv:a.tmps.getD d undef = .bool b:=(fA (eT:=cx.eT) (S:=aB O st loc w) (b:=b)).1 (hA.env d _ hl)
     have hk:=key b hv
     obtain ⟨l1,l2,l3,l4⟩:=lit b hv
     split at h
     ·cases b
      ·exact ⟨_,l1,l2,l3,l4, .inr ⟨by rw [hk];rfl,h.2 rfl⟩⟩
      ·exact ⟨_,l1,l2,l3,l4, .inl ⟨by rw [hk];rfl,h.1 rfl⟩⟩
     ·cases b
      ·exact ⟨_,l1,l2,l3,l4, .inl ⟨by rw [hk];rfl,h.2 rfl⟩⟩
      ·exact ⟨_,l1,l2,l3,l4, .inr ⟨by rw [hk];rfl,h.1 rfl⟩⟩
    ·rename_i hl
     obtain ⟨vs,hv,hvs⟩:=hA.env d _ hl
     cases hvs
     have hy:yielded ops a.tmps j=none:=by
      rw [Array.getD_eq_getD_getElem?] at hv
      simp only [yielded,hj',hd,Option.bind_some]
      cases ht:a.tmps[d]? with
      | none=>rfl
      | some x=>rw [ht] at hv;simp only [Option.getD_some] at hv;subst hv;rfl
     exact ⟨st,hA,g,rfl,fun _ _ _ _ h=>h, .inr ⟨by simp [Region.wanted,hg,hy],h⟩⟩
    ·exact h.elim
   ·exact h.elim
  ·exact h.elim
theorem n5.trans {W:List Nat} {a b c:St} (h:n5 W a b) (h':n5 W b c):n5 W a c:=fun hm t ht v hv=>h hm t ht v (h' hm t ht v hv)
theorem gM.mono {O:aM} {K:St->VC} {W:List Nat} {st st1:St} {S S1:bN} {a:Act} {w:World} (h:gM cx X O K W st1 S1 a w) (ht:Tr S S1) (ha:n5 W st st1):gM cx X O K W st S a w:=by
 obtain ⟨st',loc',k1,k2,k3,k4,k5⟩:=h
 exact ⟨st',loc',k1,k2,ht.trans k3,k4,ha.trans k5⟩
theorem wv (hok:ov P cx X) {O:aM} {st:St} {loc:Nat->Loc} {w:World} {a:Act} {ops:Array Oper} {o:Oper} {K:St->VC} {W:List Nat} (hA:ju cx (aB O st loc w) st a) (g:Good cx.eT X (aB O st loc w)) (hO:gv O w)
  (hW:∀(j:Nat) (oj:Oper) (d:Nat),ops[j]?=some oj->oj.dst=some d->d∈W) (hWo:∀d,o.dst=some d->d∈W) (h:(mA cx ops.toList st o K).holds) :
  if Region.wanted o (yielded ops a.tmps) then o.wp P a w (fun a' w'=>(Nat.beq (kindOf cx o) 3=false->Below w.heap.size w w')/\gM cx X O K W st (aB O st loc w) a' w') Q
  else gM cx X O K W st (aB O st loc w) (a.put o.dst undef) w:=by
 obtain ⟨st',hA',g',hs,hag,hcase⟩:=vI hA g hW h
 rcases hcase with ⟨hw,h'⟩ | ⟨hw,h'⟩
 ·rw [if_pos hw]
  refine Oper.wp_mono ?_ (Q0 hok g' hO hA'.env h')
  rintro a' w' ⟨v,sv,st2,loc2,rfl,k1,k2,k3,k4,k5,k6⟩
  refine ⟨fun hl=>k3 hl,?_⟩
  exact (nH k1 hA' k5 k2 k6 k4 hWo).mono (by rw [hs];exact Tr.refl _) hag
 ·rw [if_neg (by simp [hw])]
  exact (nH (loc:=loc) (w:=w) h' hA' (Tr.refl _) rfl (show eH cx.eT _ (.nx []) undef from ⟨[],rfl, .nil⟩) g' hWo).mono (by rw [hs];exact Tr.refl _) hag
theorem Je (hok:ov P cx X) {O:aM} {ops:Array Oper} {W:List Nat} (hW:∀(j:Nat) (oj:Oper) (d:Nat),ops[j]?=some oj->oj.dst=some d->d∈W) {K:St->VC}:∀(l:List Oper) {st:St} {loc:Nat->Loc} {w:World} {a:Act},(∀o∈l,∀d,o.dst=some d->d∈W)->
  ju cx (aB O st loc w) st a->Good cx.eT X (aB O st loc w)->gv O w->(FJ cx ops.toList l st K).holds->(∀st' loc' a' w',(K st').holds->Good cx.eT X (aB O st' loc' w')->Tr (aB O st loc w) (aB O st' loc' w')->ju cx (aB O st' loc' w') st' a'->n5 W st st'->Q .normal a' w')->
  wpList P ops Q l a w:=by
 intro l
 induction l with
 | nil=>intro st loc w a _ hA g _ h hq;exact hq st loc a w h g (Tr.refl _) hA fun _ _ _ _ h=>h
 | cons o l ih=>
  intro st loc w a hWl hA g hO h hq
  have hs:=wv (Q:=Q) (P:=P) hok hA g hO hW (hWl o (by simp)) h
  have next:∀a' w',gM cx X O (fun st'=>FJ cx ops.toList l st' K) W st (aB O st loc w) a' w'->wpList P ops Q l a' w':=by
   rintro a' w' ⟨st',loc',k1,k2,k3,k4,k5⟩
   exact ih (fun o' ho'=>hWl o' (by simp [ho'])) k4 k2 (hO.tr k3.size) k1 fun st2 loc2 a2 w2 m1 m2 m3 m4 m5=>hq st2 loc2 a2 w2 m1 m2 (k3.trans m3) m4 (k5.trans m5)
  unfold wpList
  split
  ·rename_i hw
   rw [if_pos hw] at hs
   exact .inl (Oper.wp_mono (fun a' w' h'=>next a' w' h'.2) hs)
  ·rename_i hw
   rw [if_neg hw] at hs
   exact next _ _ hs
theorem Oe (hok:ov P cx X) {O:aM} {st:St} {loc:Nat->Loc} {w:World} {a:Act} (g:Good cx.eT X (aB O st loc w)) (hO:gv O w) (he:jg cx.eT (aB O st loc w) st.env a)
  {o:Oper} {K:SV->St->VC} (hk:kindOf cx o=0\/kindOf cx o=1) (h:(wq cx st o K).holds) :
  ∃v sv st' loc',(K sv st').holds/\st'.env=st.env/\Good cx.eT X (aB O st' loc' w)/\Tr (aB O st loc w) (aB O st' loc' w)/\eH cx.eT (aB O st' loc' w) sv v/\
   ∀w',(kindOf cx o=0\/Below w.heap.size w w')->(execOp a.eval o).run P w' = .ok (.value v) w':=by
 have same:∀{sv:SV} {v:Value},(K sv st).holds->eH cx.eT (aB O st loc w) sv v->(∀w',(kindOf cx o=0\/Below w.heap.size w w')->(execOp a.eval o).run P w' = .ok (.value v) w')->
   ∃v sv st' loc',(K sv st').holds/\st'.env=st.env/\Good cx.eT X (aB O st' loc' w)/\Tr (aB O st loc w) (aB O st' loc' w)/\eH cx.eT (aB O st' loc' w) sv v/\
   ∀w',(kindOf cx o=0\/Below w.heap.size w w')->(execOp a.eval o).run P w' = .ok (.value v) w':=
  fun h1 h2 h3=>⟨_,_,st,loc,h1,rfl,g,Tr.refl _,h2,h3⟩
 have pure:(AL cx st o.op fun sv=>K sv st).holds->∃v sv st' loc',(K sv st').holds/\st'.env=st.env/\Good cx.eT X (aB O st' loc' w)/\Tr (aB O st loc w) (aB O st' loc' w)/\eH cx.eT (aB O st' loc' w) sv v/\
   ∀w',(kindOf cx o=0\/Below w.heap.size w w')->(execOp a.eval o).run P w' = .ok (.value v) w':=by
  intro h
  obtain ⟨sv,v,h1,h2,h3⟩:=vY (P:=P) hok.toTyOK g he h
  exact same h1 h2 fun w' _=>h3 w'
 have mov:∀x ty,(∀w',(execOp a.eval o).run P w' = .ok (.value (a.eval x)) w')->(xW cx st x ty K).holds->∃v sv st' loc',(K sv st').holds/\st'.env=st.env/\Good cx.eT X (aB O st' loc' w)/\Tr (aB O st loc w) (aB O st' loc' w)/\eH cx.eT (aB O st' loc' w) sv v/\
   ∀w',(kindOf cx o=0\/Below w.heap.size w w')->(execOp a.eval o).run P w' = .ok (.value v) w':=by
  intro x ty hrun h
  obtain ⟨sv,st',loc',h1,h2,h3,h4,h5⟩:=yy g hO he h
  exact ⟨_,sv,st',loc',h1,h2,h3,h4,h5,fun w' _=>hrun w'⟩
 have read:(oU cx st o.op fun sv=>K sv st).holds->∃v sv st' loc',(K sv st').holds/\st'.env=st.env/\Good cx.eT X (aB O st' loc' w)/\Tr (aB O st loc w) (aB O st' loc' w)/\eH cx.eT (aB O st' loc' w) sv v/\
   ∀w',(kindOf cx o=0\/Below w.heap.size w w')->(execOp a.eval o).run P w' = .ok (.value v) w':=by
  intro h
  unfold oU at h
  simp only at h
  split at h
  ·rename_i t x i hop
   split at h
   ·rename_i n hn
    obtain ⟨k,hk',_⟩:=nf hn (bS he i)
    obtain ⟨c,u,h1,h2,h3⟩:=Df (P:=P) hok.toTyOK g (k:=k) (bS he x) h
    exact same h1 h2 fun w' _=>by simp [execOp,hop,hk',h3]
   ·exact h.elim
  ·rename_i t x f hop
   obtain ⟨c,u,h1,h2,h3⟩:=yw (P:=P) hok.toTyOK (bS he x) h
   exact same h1 h2 fun w' _=>by simp [execOp,hop,h3]
  ·rename_i t x hop
   obtain ⟨c,u,h1,h2,h3⟩:=ue (P:=P) hok.toTyOK g (bS he x) h
   refine same h1 h2 fun w' hb => ?_
   have hb:Below w.heap.size w w':=by
    rcases hb with hb | hb
    ·simp [kindOf,hop] at hb
    ·exact hb
   simp [execOp,hop,h3 w' hb]
  ·rename_i t x lo hi hop
   obtain ⟨c,u,h1,h2,h3⟩:=yx (P:=P) hok.toTyOK g he (bS he x) h
   exact same h1 h2 fun w' _=>by simp [execOp,hop,h3]
  ·exact pure h
 unfold wq at h
 split at h
 ·rename_i hm;rw [um hm] at hk;omega
 unfold AZ at h
 split at h
 ·rename_i s t x hop
  unfold z1 at h
  split at h
  ·rename_i hs ht;simp [kindOf,hop,ht] at hk
  ·exact read h
  ·exact h.elim
 ·rename_i x hop
  exact mov x _ (fun w'=>by simp [execOp,hop]) h
 ·rename_i x hop
  unfold LX at h
  split at h
  ·obtain ⟨sv,st',loc',h1,h2,h3,h4,h5⟩:=wo g hO he h
   exact ⟨_,sv,st',loc',h1,h2,h3,h4,h5,fun w' _=>by simp [execOp,hop]⟩
  ·exact mov x _ (fun w'=>by simp [execOp,hop]) h
 ·rename_i t hop;simp [kindOf,hop] at hk
 ·rename_i t x hop;simp [kindOf,hop] at hk
 ·rename_i t ps hop
  obtain ⟨sv,v,h1,h2,h3⟩:=vG hok.toTyOK g he h
  exact same h1 h2 fun w' _=>by have:=h3 w';simp only [execOp,hop,Sem.run_bind,Sem.run_pure];rw [this];rfl
 ·rename_i t n ps hop;simp [kindOf,hop] at hk
 ·rename_i t l c hop;simp [kindOf,hop] at hk
 ·rename_i t x v hop;simp [kindOf,hop] at hk
 ·rename_i fn first caps hop
  split at h
  ·rename_i f ns hfi hcn
   obtain ⟨k1,k2⟩:=wu he hcn
   have hfi':first = #[]:=Array.toList_inj.1 hfi
   have hca:caps.map a.eval=(ns.map fun n=>(loc n).v).toArray:=by
    apply Array.toList_inj.1
    rw [Array.toList_map,k1]
   refine same (v:=.func (.func f) #[] (ns.map fun n=>(loc n).v).toArray) h ⟨rfl,k2⟩ fun w' _ => ?_
   simp [execOp,hop,Instr.makeFunc,hfi',hca]
  ·exact h.elim
 ·rename_i c hop
  unfold zZ at h
  split at h
  ·rename_i f hcal
   exfalso
   have:kindOf cx o=2\/kindOf cx o=3:=by
    unfold kindOf
    simp only [hop,hcal]
    split
    ·rename_i heq;cases heq
    ·rename_i heq;cases heq
    ·rename_i heq;cases heq
    ·split
     ·exact .inl rfl
     ·exact .inr rfl
    ·split
     ·exact .inl rfl
     ·exact .inr rfl
    ·exact .inr rfl
   omega
  ·rename_i hcal;simp [kindOf,hop,hcal] at hk
  ·rename_i hcal;simp [kindOf,hop,hcal] at hk
  ·rename_i hcal
   split at h
   ·rename_i x y harg
    have h1:c.args = #[x,y]:=Array.toList_inj.1 harg
    obtain ⟨c',v,k1,k2,k3⟩:=uk (P:=P) (bS he x) (bS he y) h
    refine same (v:=v) k1 k2 fun w' _ => ?_
    have k3:=k3 w'
    simp only [if_true] at k3
    simp [execOp,hop,resolve,hcal,h1,invoke,builtin,Builtin.max_,k3]
   ·exact h.elim
  ·rename_i hcal
   split at h
   ·rename_i x y harg
    have h1:c.args = #[x,y]:=Array.toList_inj.1 harg
    obtain ⟨c',v,k1,k2,k3⟩:=uk (P:=P) (bS he x) (bS he y) h
    refine same (v:=v) k1 k2 fun w' _ => ?_
    have k3:=k3 w'
    simp only [Bool.false_eq_true,if_false] at k3
    simp [execOp,hop,resolve,hcal,h1,invoke,builtin,Builtin.min_,k3]
   ·exact h.elim
  ·exact read h
 ·exact read h
theorem LZ {ops:Array Oper} {st:St} {i:Nat} {o:Oper} (ho:ops[i]?=some o) (h:uq cx ops st i=true):∃t x u y,o.op = .load t x/\o.guard=none/\eJ st.env x = .oO u y:=by
 unfold uq at h
 rw [ho] at h
 simp only at h
 split at h
 ·rename_i t x hop hg
  split at h
  ·rename_i u y hev;exact ⟨t,x,u,y,hop,hg,hev⟩
  ·cases h
 ·cases h
theorem Of {ops:Array Oper} {loud:Nat->Bool} {n:Nat} {listed:Array Bool} {a:Act} {w:World} {A A':aM} (h:fH w A w A') (hw:wpS P ops loud Q n listed a w A'):wpS P ops loud Q n listed a w A:=by
 cases n with
 | zero=>exact hw
 | succ n=>exact ⟨hw.1,fun i hi=>wpOp_mono (fun a' w' h'=>⟨h'.1,let ⟨A2,k1,k2⟩:=h'.2;⟨A2,h.trans k1,k2⟩⟩) (hw.2 i hi)⟩
theorem Tg (hok:ov P cx X) {O:aM} {st:St} {loc:Nat->Loc} {w:World} {a:Act} (g:Good cx.eT X (aB O st loc w)) (hO:gv O w) (he:jg cx.eT (aB O st loc w) st.env a)
  {o:Oper} {K:SV->St->VC} {t:TypeId} {x:Operand} {u:Ty} {y:D u} (hop:o.op = .load t x) (hev:eJ st.env x = .oO u y) (h:(wq cx st o K).holds) :
  ∃v sv,(K sv st).holds/\eH cx.eT (aB O st loc w) sv v/\∀w' A',fH w (aB O st loc w).A w' A'->(execOp a.eval o).run P w' = .ok (.value v) w':=by
 have hx:=bS he x
 rw [hev] at hx
 unfold wq at h
 split at h
 ·rename_i hm;have:=um hm;simp [kindOf,hop] at this
 unfold AZ at h
 rw [hop] at h
 simp only at h
 unfold oU at h
 simp only at h
 rw [hev] at h
 unfold v7 at h
 split at h
 ·rename_i ty ht
  obtain ⟨m,i,d,hf,hs⟩:=gx hok.toTyOK ht
  simp only at h
  split at h
  ·rename_i hb
   obtain ⟨b,o',us,hvx,hr,hrow⟩:=hx
   have hr:=mv hb y hr
   obtain ⟨v,h1,h2⟩:=gV hf hs hr.length w (fun j v hj=>(hrow j v hj).1)
   refine ⟨v,_,h,nF hr h2,fun w' A' hd => ?_⟩
   obtain ⟨v',h3,h4⟩:=gV (P:=P) hf hs hr.length w' (fun j v hj=>(hd _ _ _ (hrow j v hj).2 (hrow j v hj).1).1)
   have e:v'=v:=by
    split at h2
    ·rename_i ho;rw [if_pos ho] at h4;rw [h2] at h4;exact (List.cons.inj h4).1.symm
    ·rename_i ho;rw [if_neg ho] at h4;rw [h2,h4]
   have:=h3 w' (Below.refl _ _)
   rw [e] at this
   simp [execOp,hop,hvx,this]
  ·exact h.elim
 ·exact h.elim
theorem Ft {ops:Array Oper} (h:uu ops=true):Region.noSelect ops=true/\∀(i j:Nat) (oi oj:Oper),ops[i]?=some oi->ops[j]?=some oj->j≠i->CK oj i=false->CK oi j=false->oi.apart ops oj=true:=by
 simp only [uu,Bool.and_eq_true,List.all_eq_true,List.mem_range] at h
 refine ⟨h.1,fun i j oi oj hi hj hne h1 h2 => ?_⟩
 have:=h.2 i (Array.getElem?_eq_some_iff.1 hi).1 j (Array.getElem?_eq_some_iff.1 hj).1
 rw [hi,hj] at this
 simp only [Bool.or_eq_true,h1,h2,Bool.false_eq_true,or_false] at this
 rcases this with this | this
 ·exact absurd (Nat.eq_of_beq_eq_true this) hne
 ·exact this
theorem A5 {oj:Oper} {i:Nat} (h:∀e∈oj.after,Region.binds .any e=true->e.on≠i):CK oj i=false:=by
 cases hd:CK oj i
 ·rfl
 ·obtain ⟨e,he,hb⟩:=Array.any_eq_true'.1 hd
  simp only [Bool.and_eq_true] at hb
  exact absurd (Nat.eq_of_beq_eq_true hb.2) (h e he hb.1)
theorem Og {l:List Nat} {f:Nat->VC} (h:(FK l f).holds):∀i∈l,(f i).holds:=by
 induction l with
 | nil=>simp
 | cons i l ih=>
  cases l with
  | nil=>intro j hj;simp at hj;subst hj;exact h
  | cons j r=>
   intro k hk
   rcases List.mem_cons.1 hk with rfl | hk
   ·exact h.1
   ·exact ih h.2 k hk
theorem Jf (hok:ov P cx X) {O:aM} {ops:Array Oper} {W:List Nat} (hW:∀(j:Nat) (oj:Oper) (d:Nat),ops[j]?=some oj->oj.dst=some d->d∈W) (hreg:uu ops=true) {K:St->VC}
  (hQp:∀c a w,¬ Q (.panic c) a w):∀(n:Nat) (listed:Array Bool) {st:St} {loc:Nat->Loc} {w:World} {a:Act},tt ops listed->
  ju cx (aB O st loc w) st a->Good cx.eT X (aB O st loc w)->gv O w->(ml cx ops (jb ops.toList) n listed st K).holds->
  (∀st' loc' a' w',(K st').holds->Good cx.eT X (aB O st' loc' w')->Tr (aB O st loc w) (aB O st' loc' w')->ju cx (aB O st' loc' w') st' a'->n5 W st st'->Q .normal a' w')->
  wpS P ops (kH cx ops.toList) Q n listed a w (aB O st loc w).A:=by
 intro n
 induction n with
 | zero=>
  intro listed st loc w a _ hA g _ h hq
  simp only [ml] at h
  split at h
  ·rename_i hr;exact ⟨hr,hq st loc a w h g (Tr.refl _) hA fun _ _ _ _ h=>h⟩
  ·exact h.elim
 | succ n ih=>
  intro listed st loc w a gU hA g hO h hq
  simp only [ml] at h
  split at h
  ·rename_i hr
   exact ⟨fun _=>hq st loc a w h g (Tr.refl _) hA fun _ _ _ _ h=>h,by rw [hr];simp⟩
  ·rename_i r rs hr
   have one:∀i∈Region.ready .any ops listed,(match ops[i]? with | some o=>mA cx ops.toList st o fun st'=>ml cx ops (jb ops.toList) n (listed.setIfInBounds i true) st' K | none=>VC.ff).holds->
     wpOp P ops Q i (fun a' w'=>(kH cx ops.toList i=false->Below w.heap.size w w')/\∃A',fH w (aB O st loc w).A w' A'/\wpS P ops (kH cx ops.toList) Q n (listed.setIfInBounds i true) a' w' A') a w:=by
    intro i hi h
    split at h
    ·rename_i o ho
     have hs:=wv (Q:=Q) (P:=P) hok hA g hO hW (fun d hd=>hW i o d ho hd) h
     have hl:kH cx ops.toList i=Nat.beq (kindOf cx o) 3:=by
      unfold kH;rw [Array.getElem?_toList,ho]
     have next:∀a' w',gM cx X O (fun st'=>ml cx ops (jb ops.toList) n (listed.setIfInBounds i true) st' K) W st (aB O st loc w) a' w'->∃A',fH w (aB O st loc w).A w' A'/\wpS P ops (kH cx ops.toList) Q n (listed.setIfInBounds i true) a' w' A':=by
      rintro a' w' ⟨st',loc',k1,k2,k3,k4,k5⟩
      exact ⟨_,k3.cell,ih _ (uo gU hi) k4 k2 (hO.tr k3.size) k1 fun st2 loc2 a2 w2 m1 m2 m3 m4 m5=>hq st2 loc2 a2 w2 m1 m2 (k3.trans m3) m4 (k5.trans m5)⟩
     unfold wpOp
     simp only [ho]
     split
     ·rename_i hw
      rw [if_pos hw] at hs
      exact .inl (Oper.wp_mono (fun a' w' h'=>⟨fun e=>h'.1 (by rw [<-hl];exact e),next a' w' h'.2⟩) hs)
     ·rename_i hw
      rw [if_neg hw] at hs
      exact ⟨fun _=>Below.refl _ _,next _ _ hs⟩
    ·exact h.elim
   split at h
   ·rename_i i hf
    have hmem:i∈Region.ready .any ops listed:=by rw [hr];exact List.mem_of_find?_eq_some hf
    have hst:=List.find?_some hf
    split at h
    ·rename_i o ho
     have hol:ops.toList[i]?=some o:=by rw [Array.getElem?_toList];exact ho
     obtain ⟨hsel,hap⟩:=Ft hreg
     have hfree:∀j oj,ops[j]?=some oj->j≠i->listed.getD j true=false->(∀e∈oj.after,Region.binds .any e=true->e.on≠i)->o.apart ops oj=true:=by
      intro j oj hj hji hun hno
      refine hap i j o oj ho hj hji (A5 hno) (A5 fun e he hb heq => ?_)
      obtain ⟨_,o',ho',hall⟩:=mem_ready.1 hmem
      rw [ho] at ho'
      cases ho'
      have:=hall e he hb
      rw [heq] at this
      rcases Nat.lt_or_ge j listed.size with h' | h'
      ·simp [h'] at hun this;rw [hun] at this;cases this
      ·simp [Array.getElem?_eq_none h'] at this
     have fin:∀{C:z6} (hCr:∀w A,C w A w A) (hCt:∀a A b B c D,C a A b B->C b B c D->C a A c D)
       (hCC:(∀w A w' A',fH w A w' A'->C w A w' A')\/((∀w A w' A',Below w.heap.size w w'->C w A w' A')/\∀j,listed.getD j true=false->j≠i->kH cx ops.toList j=true->qd ops i j))
       {v:Value},ji P ops C o v a w (aB O st loc w).A->gM cx X O (fun st'=>ml cx ops (jb ops.toList) n (listed.setIfInBounds i true) st' K) W st (aB O st loc w) (a.put o.dst v) w->wpS P ops (kH cx ops.toList) Q (n + 1) listed a w (aB O st loc w).A:=by
      intro C hCr hCt hCC v hy ⟨st',loc',k1,k2,k3,k4,k5⟩
      refine Oa hCr hCt ho (fun j o' cs b hj=>Region.noSelect_spec hsel j o' cs b hj) (fun c a w h=>(hQp _ _ _ h).elim) n listed a w _ gU hfree hCC hmem hy ?_
      exact Of k3.cell (ih _ (uo gU hmem) k4 k2 (hO.tr k3.size) k1 fun st2 loc2 a2 w2 m1 m2 m3 m4 m5=>hq st2 loc2 a2 w2 m1 m2 (k3.trans m3) m4 (k5.trans m5))
     cases hd:uq cx ops st i with
     | true=>
      obtain ⟨t,x,u,y,hop,hg,hev⟩:=LZ ho hd
      have h':(wq cx st o fun sv st'=>A4 cx st' o.dst sv fun st'=>ml cx ops (jb ops.toList) n (listed.setIfInBounds i true) st' K).holds:=by
       unfold mA xX at h;rw [hg] at h;exact h
      obtain ⟨v,sv,m1,m2,m3⟩:=Tg hok g hO hA.env hop hev h'
      have hw:Region.wanted o (yielded ops a.tmps)=true:=by unfold Region.wanted;rw [hg]
      refine fin (C:=fH) fH.refl (fun _ _ _ _ _ _=>fH.trans) (.inl fun _ _ _ _ h=>h) (v:=v) (.inl ⟨hw,fun w' A' hc=>m3 w' A' hc⟩) ?_
      exact (nH m1 hA (Tr.refl _) rfl m2 g (fun d hd=>hW i o d ho hd))
     | false=>
      have hkind:kindOf cx o=0\/(kindOf cx o=1/\∀j,j < ops.size->j≠i->listed.getD j true=false->kH cx ops.toList j=true->qd ops i j):=by
       rw [hd,Bool.or_false] at hst
       simp only [tu,hol] at hst
       split at hst
       ·rename_i hk;exact .inl hk
       ·rename_i hk
        refine .inr ⟨hk,fun j hj hji hun hl => ?_⟩
        rw [List.all_eq_true] at hst
        have:=hst j (by rw [List.mem_range];simpa using hj)
        simp only [Bool.or_eq_true,hun,hl,Bool.not_true,Bool.false_eq_true,or_false] at this
        rcases this with this | this
        ·exact absurd (Nat.eq_of_beq_eq_true this) hji
        ·exact N8 this
       ·cases hst
      let C:z6:=fun w _ w' _=>kindOf cx o=0\/Below w.heap.size w w'
      have hCr:∀w A,C w A w A:=fun w A => .inr (Below.refl _ _)
      have hCt:∀a A b B c D,C a A b B->C b B c D->C a A c D:=by
       intro a A b B c D h1 h2
       rcases h1 with h1 | h1
       ·exact .inl h1
       ·rcases h2 with h2 | h2
        ·exact .inl h2
        ·exact .inr (h1.trans (h2.mono h1.size))
      have hCC:(∀w A w' A',fH w A w' A'->C w A w' A')\/((∀w A w' A',Below w.heap.size w w'->C w A w' A')/\∀j,listed.getD j true=false->j≠i->kH cx ops.toList j=true->qd ops i j):=by
       rcases hkind with hk | ⟨hk,hanc⟩
       ·exact .inl fun _ _ _ _ _ => .inl hk
       ·refine .inr ⟨fun _ _ _ _ hb => .inr hb,fun j hun hji hl=>hanc j ?_ hji hun hl⟩
        rcases Nat.lt_or_ge j ops.size with hh | hh
        ·exact hh
        ·unfold kH at hl
         rw [Array.getElem?_toList,Array.getElem?_eq_none hh] at hl
         cases hl
      unfold mA at h
      obtain ⟨st1,hA1,g1,hs1,hag1,hcase⟩:=vI hA g hW h
      rcases hcase with ⟨hw,h'⟩ | ⟨hw,h'⟩
      ·obtain ⟨v,sv,st2,loc2,m1,m2,m3,m4,m5,m6⟩:=Oe hok g1 hO hA1.env (hkind.imp id (·.1)) h'
       refine fin hCr hCt hCC (v:=v) (.inl ⟨hw,fun w' _ hc=>m6 w' hc⟩) ?_
       exact (nH m1 hA1 m4 m2 m5 m3 (fun d hd=>hW i o d ho hd)).mono (by rw [hs1];exact Tr.refl _) hag1
      ·refine fin hCr hCt hCC (v:=undef) (.inr ⟨hw,rfl⟩) ?_
       exact (nH (loc:=loc) (w:=w) h' hA1 (Tr.refl _) rfl (show eH cx.eT _ (.nx []) undef from ⟨[],rfl, .nil⟩) g1 (fun d hd=>hW i o d ho hd)).mono (by rw [hs1];exact Tr.refl _) hag1
    ·exact h.elim
   ·have hall:=Og h
    refine ⟨fun e=>(by rw [hr] at e;cases e),fun i hi=>one i hi ?_⟩
    exact hall i (by rw [<-hr];exact hi)
end
structure wx (ops:Array Oper) (m:Nat) (listed:Array Bool):Prop where
 size:listed.size=ops.size
 bits:∀k,m.testBit k=listed.getD k false
theorem wx.out {ops:Array Oper} {m:Nat} {listed:Array Bool} (h:wx ops m listed) {i:Nat} (hi:i < ops.size):listed.getD i true=m.testBit i:=by
 rw [h.bits];simp [h.size,hi]
theorem wx.set {ops:Array Oper} {m:Nat} {listed:Array Bool} (h:wx ops m listed) {i:Nat} (hi:i < ops.size):wx ops (m ||| (1 <<< i)) (listed.setIfInBounds i true):=by
 refine ⟨by simp [h.size],fun k => ?_⟩
 rw [Nat.testBit_or,h.bits,Nat.one_shiftLeft,Nat.testBit_two_pow]
 by_cases e:i=k
 ·subst e;simp [h.size,hi]
 ·simp [e,Array.getElem?_setIfInBounds]
theorem Th (a b m:Nat):(Nat.beq ((a ||| b) &&& m) (a ||| b))=(Nat.beq (a &&& m) a && Nat.beq (b &&& m) b):=by
 rw [Bool.eq_iff_iff,Bool.and_eq_true,Nat.beq_eq,Nat.beq_eq,Nat.beq_eq]
 constructor
 ·intro h
  have hb:∀k,(a.testBit k || b.testBit k)=true->m.testBit k=true:=fun k hk=>by
   have:=congrArg (fun x=>x.testBit k) h
   simp only [Nat.testBit_and,Nat.testBit_or] at this
   rw [hk] at this;simpa using this
  constructor <;> apply Nat.eq_of_testBit_eq <;> intro k <;> rw [Nat.testBit_and]
  ·cases ha:a.testBit k with
   | false=>rfl
   | true=>rw [hb k (by rw [ha];rfl)];rfl
  ·cases ha:b.testBit k with
   | false=>rfl
   | true=>rw [hb k (by rw [ha];simp)];rfl
 ·rintro ⟨h1,h2⟩
  rw [Nat.and_or_distrib_right,h1,h2]
theorem Uc (k m:Nat):Nat.beq ((1 <<< k) &&& m) (1 <<< k)=m.testBit k:=by
 rw [Bool.eq_iff_iff,Nat.beq_eq,Nat.one_shiftLeft]
 constructor
 ·intro h
  have:=congrArg (fun x=>x.testBit k) h
  simpa [Nat.testBit_and,Nat.testBit_two_pow] using this
 ·intro h
  apply Nat.eq_of_testBit_eq
  intro j
  rw [Nat.testBit_and,Nat.testBit_two_pow]
  by_cases e:k=j
  ·subst e;simp [h]
  ·simp [e]
theorem Oh (o:Oper) (m:Nat):Nat.beq (z7 o &&& m) (z7 o)=o.after.toList.all fun e => !Region.binds .any e || m.testBit e.on:=by
 have key:∀(l:List Edge) (s:Nat),
   Nat.beq (l.foldl (fun s e=>match Region.binds .any e with | true=>s ||| (1 <<< e.on) | false=>s) s &&& m) (l.foldl (fun s e=>match Region.binds .any e with | true=>s ||| (1 <<< e.on) | false=>s) s) =
    (Nat.beq (s &&& m) s && l.all fun e => !Region.binds .any e || m.testBit e.on):=by
  intro l
  induction l with
  | nil=>intro s;simp
  | cons e l ih=>
   intro s
   rw [List.foldl_cons,ih,List.all_cons]
   cases Region.binds .any e with
   | true=>simp only [Th,Uc,Bool.not_true,Bool.false_or,Bool.and_assoc]
   | false=>simp
 have:=key o.after.toList 0
 simpa [z7] using this
theorem Dq {m:Nat} {p:Nat->Bool}:∀(l:List Nat) (i:Nat),(∀k am,l[k]?=some am->Oc am m (i + k)=p (i + k))->nG l m i=(List.range' i l.length).filter p
 | [],_,_=>rfl
 | am :: r,i,h=>by
  have h0:Oc am m i=p i:=by simpa using h 0 am rfl
  have ih:=Dq (m:=m) (p:=p) r (i + 1) fun k am' hk=>by
   have:=h (k + 1) am' (by simpa using hk)
   rwa [show i + (k + 1)=i + 1 + k by omega] at this
  have e:nG (am :: r) m i=match Oc am m i with | true=>i :: nG r m (i + 1) | false=>nG r m (i + 1):=by rw [nG]
  rw [List.length_cons,List.range'_succ,List.filter_cons,<-ih,e,h0]
  cases p i <;> rfl
theorem Gs {m i:Nat} {p:Nat->Bool}:∀(ls:List Bool) (Vy:List Nat) (j:Nat),ls.length=Vy.length->
  (∀k l a,ls[k]?=some l->Vy[k]?=some a->(!(l && (!(Nat.beq (j + k) i) && (!(m.testBit (j + k)) && !(a.testBit i)))))=p (j + k))->ur m i ls Vy j=(List.range' j ls.length).all p
 | [],[],_,_,_=>rfl
 | [],_ :: _,_,h,_=>by simp at h
 | _ :: _,[],_,h,_=>by simp at h
 | l :: ls,a :: Vy,j,hl,h=>by
  have h0:=h 0 l a rfl rfl
  rw [Nat.add_zero] at h0
  have ih:=Gs (m:=m) (i:=i) (p:=p) ls Vy (j + 1) (by simpa using hl) fun k l' a' hk ha=>by
   have:=h (k + 1) l' a' (by simpa using hk) (by simpa using ha)
   rwa [show j + (k + 1)=j + 1 + k by omega] at this
  have e:ur m i (l :: ls) (a :: Vy) j=match l && (!(Nat.beq j i) && (!(m.testBit j) && !(a.testBit i))) with | true=>false | false=>ur m i ls Vy (j + 1):=by rw [ur]
  rw [List.length_cons,List.range'_succ,List.all_cons,<-ih,<-h0,e]
  cases (l && (!(Nat.beq j i) && (!(m.testBit j) && !(a.testBit i)))) <;> rfl
theorem yA:∀(r:List Oper) (ms:List Nat),(pB r ms).length=ms.length + r.length
 | [],ms=>by simp [pB]
 | o :: r,ms=>by rw [pB,yA r];simp;omega
theorem Oi (l:List Oper):(jb l).length=l.length:=by unfold jb;rw [yA];simp
theorem Gt {ops:Array Oper} {m:Nat} {listed:Array Bool} (h:wx ops m listed):nG (ops.toList.map z7) m 0=Region.ready .any ops listed:=by
 unfold Region.ready
 rw [Dq (p:=fun i => !listed.getD i true && ((ops[i]?).map (·.after.all fun e => !Region.binds .any e || listed.getD e.on false)).getD false),List.length_map,List.range_eq_range']
 ·rfl
 ·intro k am hk
  rw [Nat.zero_add]
  rw [List.getElem?_map,Array.getElem?_toList] at hk
  cases ho:ops[k]? with
  | none=>rw [ho] at hk;cases hk
  | some o=>
   rw [ho] at hk
   simp only [Option.map_some,Option.some.injEq] at hk
   have hlt:k < ops.size:=(Array.getElem?_eq_some_iff.1 ho).1
   unfold Oc
   rw [<-hk,Oh,h.out hlt]
   simp only [Option.map_some,Option.getD_some]
   congr 1
   rw [<-Array.all_toList]
   congr 1
   funext e
   rw [h.bits]
theorem Oj {cx:Cx} {ops:Array Oper} {m:Nat} {listed:Array Bool} (h:wx ops m listed) (i:Nat) :
  xY (ops.toList.map (kindOf cx)) (ops.toList.map fun o=>Nat.beq (kindOf cx o) 3) (jb ops.toList) m i=tu cx ops.toList (jb ops.toList) listed i:=by
 unfold xY tu
 rw [List.getD_eq_getElem?_getD,List.getElem?_map]
 cases ho:ops.toList[i]? with
 | none=>rfl
 | some o=>
  simp only [Option.map_some,Option.getD_some]
  have hfree:ur m i (ops.toList.map fun o=>Nat.beq (kindOf cx o) 3) (jb ops.toList) 0=(List.range ops.toList.length).all fun j=>Nat.beq j i || listed.getD j true || !(kH cx ops.toList j) || ((jb ops.toList).getD j 0).testBit i:=by
   rw [Gs (p:=fun j=>Nat.beq j i || listed.getD j true || !(kH cx ops.toList j) || ((jb ops.toList).getD j 0).testBit i),List.length_map,List.range_eq_range']
   ·rw [List.length_map,Oi]
   ·intro k l a hk ha
    rw [Nat.zero_add]
    rw [List.getElem?_map] at hk
    cases hoo:ops.toList[k]? with
    | none=>rw [hoo] at hk;cases hk
    | some o'=>
     rw [hoo] at hk
     simp only [Option.map_some,Option.some.injEq] at hk
     have hlt:k < ops.size:=by rw [Array.getElem?_toList] at hoo;exact (Array.getElem?_eq_some_iff.1 hoo).1
     have hm:(jb ops.toList).getD k 0=a:=by rw [List.getD_eq_getElem?_getD,ha];rfl
     have hl:kH cx ops.toList k=l:=by unfold kH;rw [hoo];exact hk
     rw [hm,hl,h.out hlt]
     cases l <;> cases Nat.beq k i <;> cases m.testBit k <;> cases a.testBit i <;> rfl
  split
  ·rfl
  ·exact hfree
  ·rfl
theorem Ti {cx:Cx} {ops:Array Oper} {K:St->VC}:∀(n m:Nat) (listed:Array Bool) (st:St),wx ops m listed->
  anyM cx ops (ops.toList.map z7) (ops.toList.map (kindOf cx)) (ops.toList.map fun o=>Nat.beq (kindOf cx o) 3) (jb ops.toList) n m st K=ml cx ops (jb ops.toList) n listed st K:=by
 intro n
 induction n with
 | zero=>intro m listed st h;unfold anyM ml;rw [Gt h]
 | succ n ih=>
  intro m listed st h
  unfold anyM ml
  rw [Gt h]
  have hst:(fun i=>xY (ops.toList.map (kindOf cx)) (ops.toList.map fun o=>Nat.beq (kindOf cx o) 3) (jb ops.toList) m i || uq cx ops st i)=fun i=>tu cx ops.toList (jb ops.toList) listed i || uq cx ops st i:=funext fun i=>by rw [Oj h]
  rw [hst]
  have hone:∀i,(match ops[i]? with
    | some o=>mA cx ops.toList st o fun st'=>anyM cx ops (ops.toList.map z7) (ops.toList.map (kindOf cx)) (ops.toList.map fun o=>Nat.beq (kindOf cx o) 3) (jb ops.toList) n (m ||| (1 <<< i)) st' K
    | none=>VC.ff)=(match ops[i]? with
    | some o=>mA cx ops.toList st o fun st'=>ml cx ops (jb ops.toList) n (listed.setIfInBounds i true) st' K
    | none=>VC.ff):=by
   intro i
   cases ho:ops[i]? with
   | none=>rfl
   | some o=>
    have hlt:i < ops.size:=(Array.getElem?_eq_some_iff.1 ho).1
    simp only
    congr 1
    funext st'
    exact ih _ _ st' (h.set hlt)
  split
  ·rfl
  ·split
   ·rename_i i hf
    exact hone i
   ·congr 1
    funext i
    exact hone i
theorem Tj {cx:Cx} {ops:Array Oper} {st:St} {K:St->VC}:Ub cx ops st K=ml cx ops (jb ops.toList) ops.size (Array.replicate ops.size false) st K:=
 Ti _ _ _ _ ⟨by simp,fun k=>by simp [Array.getElem?_replicate];split <;> rfl⟩
end Go.Vg

namespace Go.Vg
open Go.RowKit
def o1 (r:Nat->Nat):C->C
 | .app t xs n => .app t xs (r n)
 | .bE n => .bE (r n)
 | .oN n t lo len => .oN (r n) t lo len
 | .og n => .og (r n)
 | .eZ n => .eZ (r n)
 | .xd n p => .xd (r n) p
 | .ref n o => .ref (r n) o
 | .ra n => .ra (r n)
 | .lG n t i o => .lG (r n) t i o
 | .fn f caps => .fn f (caps.map r)
 | c=>c
def uw (r:Nat->Nat):List C->List C
 | []=>[]
 | c :: cs=>o1 r c :: uw r cs
def tw (r:Nat->Nat):dE->dE
 | .one c => .one (o1 r c)
 | .agg cs => .agg (uw r cs)
def tx (r:Nat->Nat):List dE->List dE
 | []=>[]
 | c :: cs=>tw r c :: tx r cs
def xZ (r:Nat->Nat):SV->SV
 | .s x => .s (tw r x)
 | .nx xs => .nx (tx r xs)
def jU (r:Nat->Nat):OC->OC
 | .cells T cs => .cells T (uw r cs)
 | .iter cs seen cl => .iter (uw r cs) seen cl
 | oc=>oc
def tz (r:Nat->Nat):List (Nat × SV)->List (Nat × SV)
 | []=>[]
 | (t,v) :: l=>(t,xZ r v) :: tz r l
def pC (r:Nat->Nat):List (Nat × OC)->List (Nat × OC)
 | []=>[]
 | (n,oc) :: l=>(r n,jU r oc) :: pC r l
def kI (r:Nat->Nat) (st:St):St:={env:=tz r st.env,aK:=pC r st.aK,next:=st.next}
structure mg (base next:Nat) (r q:Nat->Nat):Prop where
 low:∀n,n < base->r n=n
 lt:∀n,n < next->r n < next
 back:∀n,n < next->q (r n)=n
 Vx:∀n,n < next->q n < next
 L0:∀n,n < next->r (q n)=n
section
variable {X:Ext} {cx:Cx} {base next:Nat} {r q:Nat->Nat}
theorem mg.Q1 (h:mg base next r q) (hb:base<=next) {n:Nat} (hn:n < base):q n=n:=by
 have:=h.back n (by omega);rw [h.low n hn] at this;exact this
theorem yB (l:List (Nat × SV)) (t:Nat):look (tz r l) t=(look l t).map (xZ r):=by
 induction l with
 | nil=>rfl
 | cons p l ih=>
  obtain ⟨m,v⟩:=p
  simp only [tz,cV]
  split
  ·rfl
  ·exact ih
theorem Gu (h:mg base next r q):∀{l:List (Nat × OC)},(∀p∈l,p.1 < next)->∀m,m < next->look (pC r l) m=(look l (q m)).map (jU r):=by
 intro l
 induction l with
 | nil=>intro _ m _;rfl
 | cons p l ih=>
  obtain ⟨n,oc⟩:=p
  intro hk m hm
  have hn:n < next:=hk (n,oc) (by simp)
  simp only [pC,cV]
  by_cases e:r n=m
  ·rw [if_pos e,if_pos (by rw [<-e,h.back n hn])];rfl
  ·rw [if_neg e,if_neg (fun e2=>e (by rw [e2,h.L0 m hm]))]
   exact ih (fun p hp=>hk p (by simp [hp])) m hm
theorem z8 (h:mg base next r q):∀{l:List (Nat × OC)},(∀p∈l,p.1 < next)->∀m,¬ m < next->look (pC r l) m=none:=by
 intro l
 induction l with
 | nil=>intro _ m _;rfl
 | cons p l ih=>
  obtain ⟨n,oc⟩:=p
  intro hk m hm
  simp only [pC,cV]
  rw [if_neg (fun e=>hm (by rw [<-e];exact h.lt n (hk (n,oc) (by simp))))]
  exact ih (fun p hp=>hk p (by simp [hp])) m hm
theorem Aa {α:Type} {l:List (Nat × α)} {p:Nat × α} (hp:p∈l):∃x,look l p.1=some x:=by
 induction l with
 | nil=>cases hp
 | cons p' l ih=>
  obtain ⟨m,y⟩:=p'
  rw [cV]
  by_cases e:m=p.1
  ·exact ⟨y,by rw [if_pos e]⟩
  ·rw [if_neg e]
   rcases List.mem_cons.1 hp with rfl | hp
   ·exact absurd rfl e
   ·exact ih hp
theorem Gv (oc:OC):(jU r oc).lo=oc.lo:=by cases oc <;> rfl
section
variable {O:aM} {st:St} {loc:Nat->Loc} {w:World}
theorem o3 (h:mg base st.next r q) (g:Good cx.eT X (aB O st loc w)) {m:Nat} {oc':OC}:(aB O (kI r st) (fun m=>loc (q m)) w).ob m=some oc' ↔ m < st.next/\∃oc,look st.aK (q m)=some oc/\oc'=jU r oc:=by
 have hk:∀p∈st.aK,p.1 < st.next:=fun p hp=>by
  obtain ⟨x,hx⟩:=Aa hp
  exact (g.obj p.1 x hx).1
 show look (pC r st.aK) m=some oc' ↔ _
 by_cases hm:m < st.next
 ·rw [Gu h hk m hm]
  cases look st.aK (q m) with
  | none=>simp
  | some oc=>simp [hm,eq_comm]
 ·rw [z8 h hk m hm];simp [hm]
theorem L1 (h:mg base st.next r q) (g:Good cx.eT X (aB O st loc w)):(aB O (kI r st) (fun m=>loc (q m)) w).A=(aB O st loc w).A:=by
 funext b off
 apply propext
 constructor
 ·rintro (k | ⟨m,oc',k1,k2,k3⟩)
  ·exact .inl k
  ·obtain ⟨hm,oc,h1,rfl⟩:=(o3 h g).1 k1
   exact .inr ⟨q m,oc,h1,k2,by rwa [Gv] at k3⟩
 ·rintro (k | ⟨n,oc,k1,k2,k3⟩)
  ·exact .inl k
  ·have hn:=(g.obj n oc k1).1
   refine .inr ⟨r n,jU r oc,(o3 h g).2 ⟨h.lt n hn,oc,by rw [h.back n hn];exact k1,rfl⟩,?_,by rw [Gv];exact k3⟩
   show b∈(loc (q (r n))).bs
   rw [h.back n hn];exact k2
theorem Gw (h:mg base st.next r q) (g:Good cx.eT X (aB O st loc w)) {b:Nat} (hb:(aB O (kI r st) (fun m=>loc (q m)) w).pr b):(aB O st loc w).pr b:=by
 obtain ⟨m,oc',k1,k2⟩:=hb
 obtain ⟨hm,oc,h1,rfl⟩:=(o3 h g).1 k1
 exact ⟨q m,oc,h1,k2⟩
theorem Ok (h:mg base st.next r q) (g:Good cx.eT X (aB O st loc w)) {c:C} {v:Value} (hc:CR cx.eT (aB O st loc w) c v):CR cx.eT (aB O (kI r st) (fun m=>loc (q m)) w) (o1 r c) v:=by
 have hA:=L1 (r:=r) (q:=q) h g
 have obn:∀{n:Nat} {oc:OC},n < st.next->(aB O (kI r st) (fun m=>loc (q m)) w).ob (r n)=some oc->∃oc0,look st.aK n=some oc0/\oc=jU r oc0:=by
  intro n oc hn ho
  obtain ⟨_,oc0,h1,h2⟩:=(o3 h g).1 ho
  rw [h.back n hn] at h1
  exact ⟨oc0,h1,h2⟩
 cases c with
 | lit b=>exact hc
 | d t x=>show VR cx.eT t x _ w v;rw [hA];exact hc
 | app t xs n=>
  obtain ⟨h1,h2,h3⟩:=hc
  refine ⟨by rw [hA];exact h1,h.lt n h2,fun ys hy => ?_⟩
  obtain ⟨oc0,k1,k2⟩:=obn h2 hy
  cases oc0 <;> simp [jU] at k2
  obtain ⟨rfl,rfl⟩:=k2
  obtain ⟨m1,m2⟩:=h3 _ k1
  exact ⟨m1,fun e=>by show v=(loc (q (r n))).v;rw [h.back n h2];exact m2 e⟩
 | jR=>exact hc
 | iv=>exact hc
 | emp=>exact hc
 | bE n=>
  refine ⟨h.lt n hc.1,fun t xs e => ?_⟩
  obtain ⟨oc0,k1,k2⟩:=obn hc.1 e
  cases oc0 <;> simp [jU] at k2
  obtain ⟨rfl,rfl⟩:=k2
  show v=(loc (q (r n))).v
  rw [h.back n hc.1];exact hc.2 _ _ k1
 | oN n t lo len=>
  refine ⟨h.lt n hc.1,fun xs e => ?_⟩
  obtain ⟨oc0,k1,k2⟩:=obn hc.1 e
  cases oc0 <;> simp [jU] at k2
  obtain ⟨rfl,k3⟩:=k2
  rcases hc.2 _ k1 with h5 | ⟨b,c,h5,h6⟩
  ·exact .inl h5
  ·exact .inr ⟨b,c,by show (loc (q (r n))).bs = [b];rw [h.back n hc.1];exact h5,h6⟩
 | og n=>
  refine ⟨h.lt n hc.1,fun t xs e => ?_⟩
  obtain ⟨oc0,k1,k2⟩:=obn hc.1 e
  cases oc0 <;> simp [jU] at k2
  obtain ⟨rfl,rfl⟩:=k2
  show v=(loc (q (r n))).v
  rw [h.back n hc.1];exact hc.2 _ _ k1
 | eZ n=>
  refine ⟨h.lt n hc.1,fun oc e hx => ?_⟩
  obtain ⟨oc0,k1,k2⟩:=obn hc.1 e
  have hx':oc0.TX=true:=by subst k2;cases oc0 <;> first | rfl | cases hx
  show v=(loc (q (r n))).v
  rw [h.back n hc.1];exact hc.2 _ k1 hx'
 | xd n p=>
  refine ⟨h.lt n hc.1,fun t x e => ?_⟩
  obtain ⟨oc0,k1,k2⟩:=obn hc.1 e
  cases oc0 <;> simp [jU] at k2
  obtain ⟨rfl,rfl,k2⟩:=k2
  show NT p (loc (q (r n))).v v
  rw [h.back n hc.1];exact hc.2 _ _ k1
 | ref n off=>
  refine ⟨h.lt n hc.1,fun T cs e => ?_⟩
  obtain ⟨oc0,k1,k2⟩:=obn hc.1 e
  cases oc0 <;> simp [jU] at k2
  show ∃b,(loc (q (r n))).v=_/\_
  rw [h.back n hc.1];exact hc.2 _ _ k1
 | ra n=>
  refine ⟨h.lt n hc.1,?_⟩
  rcases hc.2 with hn | hn
  ·exact .inl hn
  ·refine .inr fun T cs e => ?_
   obtain ⟨oc0,k1,k2⟩:=obn hc.1 e
   cases oc0 <;> simp [jU] at k2
   show v=(loc (q (r n))).v
   rw [h.back n hc.1];exact hn _ _ k1
 | lG n t i off=>
  refine ⟨h.lt n hc.1,fun ⟨xs,e⟩ => ?_⟩
  show ∃b,(loc (q (r n))).bs=_/\_
  rw [h.back n hc.1]
  rcases e with e | e
  ·obtain ⟨oc0,k1,k2⟩:=obn hc.1 e
   cases oc0 <;> simp [jU] at k2
   obtain ⟨rfl,rfl⟩:=k2
   exact hc.2 ⟨_, .inl k1⟩
  ·obtain ⟨oc0,k1,k2⟩:=obn hc.1 e
   cases oc0 <;> simp [jU] at k2
   obtain ⟨rfl,rfl⟩:=k2
   exact hc.2 ⟨_, .inr k1⟩
 | oO t x=>
  obtain ⟨b,o,us,rfl,h1,h2⟩:=hc
  exact ⟨b,o,us,rfl,by rw [hA];exact h1,by rw [hA];exact h2⟩
 | fn f caps=>
  obtain ⟨rfl,h2⟩:=hc
  refine ⟨?_,fun m hm => ?_⟩
  ·congr 2
   rw [List.map_map]
   exact List.map_congr_left fun n hn=>by show _=(loc (q (r n))).v;rw [h.back n (h2 n hn).1];rfl
  ·obtain ⟨n,hn,rfl⟩:=List.mem_map.1 hm
   refine ⟨h.lt n (h2 n hn).1,fun t ys e => ?_⟩
   obtain ⟨oc0,k1,k2⟩:=obn (h2 n hn).1 e
   cases oc0 <;> simp [jU] at k2
   obtain ⟨rfl,rfl⟩:=k2
   exact (h2 n hn).2 _ _ k1
 | any=>trivial
theorem x8 (h:mg base st.next r q) (g:Good cx.eT X (aB O st loc w)):∀{cs:List C} {vs:List Value},eP cx.eT (aB O st loc w) cs vs->eP cx.eT (aB O (kI r st) (fun m=>loc (q m)) w) (uw r cs) vs
 | _,_, .nil => .nil
 | _,_, .cons h1 h2 h3 => .cons (Ok h g h1) h2 (x8 h g h3)
theorem Gx (h:mg base st.next r q) (g:Good cx.eT X (aB O st loc w)) {x:dE} {v:Value} (hx:jt cx.eT (aB O st loc w) x v):jt cx.eT (aB O (kI r st) (fun m=>loc (q m)) w) (tw r x) v:=by
 cases x with
 | one c=>exact Ok h g hx
 | agg cs=>obtain ⟨vs,rfl,hv⟩:=hx;exact ⟨vs,rfl,x8 h g hv⟩
theorem Dr (h:mg base st.next r q) (g:Good cx.eT X (aB O st loc w)):∀{cs:List dE} {vs:List Value},dR cx.eT (aB O st loc w) cs vs->dR cx.eT (aB O (kI r st) (fun m=>loc (q m)) w) (tx r cs) vs
 | _,_, .nil => .nil
 | _,_, .cons h1 h3 => .cons (Gx h g h1) (Dr h g h3)
theorem Tk (h:mg base st.next r q) (g:Good cx.eT X (aB O st loc w)) {x:SV} {v:Value} (hx:eH cx.eT (aB O st loc w) x v):eH cx.eT (aB O (kI r st) (fun m=>loc (q m)) w) (xZ r x) v:=by
 cases x with
 | s x=>exact Gx h g hx
 | nx xs=>obtain ⟨vs,rfl,hv⟩:=hx;exact ⟨vs,rfl,Dr h g hv⟩
theorem wy (h:mg base st.next r q) (g:Good cx.eT X (aB O st loc w)) {t:Ty} {xs:List (D t)} {vs:Array Value} (he:lH cx.eT (aB O st loc w) t xs vs):lH cx.eT (aB O (kI r st) (fun m=>loc (q m)) w) t xs vs:=by
 intro i y hy
 obtain ⟨us,h1,h2⟩:=he i y hy
 exact ⟨us,by rw [L1 h g];exact h1,h2⟩
theorem Ud (h:mg base st.next r q) (g:Good cx.eT X (aB O st loc w)) {l:Loc} {oc:OC} (ho:OR cx.eT X (aB O st loc w) l oc):OR cx.eT X (aB O (kI r st) (fun m=>loc (q m)) w) l (jU r oc):=by
 cases oc with
 | cells T cs=>obtain ⟨b,vs,h1,h2,h3,h4⟩:=ho;exact ⟨b,vs,h1,h2,h3,x8 h g h4⟩
 | bE t xs=>
  rcases ho with ho | ⟨b,vs,T,cap,h1,h2,h3,h4,h5,h6,h7⟩
  ·exact .inl ho
  ·exact .inr ⟨b,vs,T,cap,h1,h2,h3,h4,h5,h6,wy h g h7⟩
 | arr t xs=>obtain ⟨b,vs,T,h1,h2,h3,h4,h5⟩:=ho;exact ⟨b,vs,T,h1,h2,h3,h4,wy h g h5⟩
 | tok t xs=>
  rcases ho with ho | ⟨b,vs,T,cap,h1,h2,h3,h4,h5,h6,h7⟩
  ·exact .inl ho
  ·exact .inr ⟨b,vs,T,cap,h1,h2,h3,h4,h5,h6,wy h g h7⟩
 | ext k t x=>exact ho
 | iter cs seen cl=>obtain ⟨b,m,c,sn,h1,h2,h3,h4,h5,h6⟩:=ho;exact ⟨b,m,c,sn,h1,h2,h3,x8 h g h4,h5,h6⟩
theorem Q2 (h:mg base st.next r q) (g:Good cx.eT X (aB O st loc w)):Good cx.eT X (aB O (kI r st) (fun m=>loc (q m)) w):=by
 refine ⟨fun n oc' ho => ?_,fun n m oc oc' b h1 h2 h3 h4 => ?_,fun n oc' b off ho hb => ?_,g.oh.sub rfl fun b hb=>Gw h g hb⟩
 ·obtain ⟨hn,oc,k1,rfl⟩:=(o3 h g).1 ho
  exact ⟨hn,Ud h g (g.obj _ _ k1).2⟩
 ·obtain ⟨hn,oc1,k1,rfl⟩:=(o3 h g).1 h1
  obtain ⟨hm,oc2,k2,rfl⟩:=(o3 h g).1 h2
  have:=g.apart (q n) (q m) oc1 oc2 b k1 k2 h3 h4
  rw [<-h.L0 n hn,<-h.L0 m hm,this]
 ·obtain ⟨hn,oc,k1,rfl⟩:=(o3 h g).1 ho
  exact g.out (q n) oc b off k1 hb
theorem Q3 {l l':Loc} {a b:OC} (h:bB l l' a b):bB l l' a (jU r b):=by
 cases a <;> cases b <;> first | exact h | exact h.elim
theorem Ue (h:mg base st.next r q) (g:Good cx.eT X (aB O st loc w)) {S:bN} (hS:S.next=base) (hb:base<=st.next) (t:Tr S (aB O st loc w)):Tr S (aB O (kI r st) (fun m=>loc (q m)) w) where
 O:=t.O
 next:=t.next
 os:=t.os
 output:=t.output
 size:=t.size
 own b hb':=t.own b (Gw h g hb')
 cell b o v ha hc:=by
  obtain ⟨h1,h2⟩:=t.cell b o v ha hc
  exact ⟨h1,by rw [L1 h g];exact h2⟩
 block:=t.block
 loc n hn hf:=by
  show (loc (q n)).v=_/\(_->loc (q n)=_)
  rw [h.Q1 hb (by omega)]
  exact t.loc n hn hf
 kind n oc' hn ho:=by
  obtain ⟨_,oc1,k1,rfl⟩:=(o3 h g).1 ho
  rw [h.Q1 hb (by omega)] at k1
  obtain ⟨oc,k2,k3⟩:=t.kind n oc1 hn k1
  refine ⟨oc,k2,?_⟩
  show bB (S.loc n) (loc (q n)) oc (jU r oc1)
  rw [h.Q1 hb (by omega)]
  exact Q3 k3
theorem Gy {S:bN} (hS:S.next=base) (hl:∀n,n < base->r n=n) {c:C} {v:Value} (hc:CR cx.eT S c v):o1 r c=c:=by
 subst hS
 cases c with
 | app t xs n=>simp only [o1];rw [hl n hc.2.1]
 | bE n=>simp only [o1];rw [hl n hc.1]
 | oN n t lo len=>simp only [o1];rw [hl n hc.1]
 | og n=>simp only [o1];rw [hl n hc.1]
 | eZ n=>simp only [o1];rw [hl n hc.1]
 | xd n p=>simp only [o1];rw [hl n hc.1]
 | ref n off=>simp only [o1];rw [hl n hc.1]
 | ra n=>simp only [o1];rw [hl n hc.1]
 | lG n t i off=>simp only [o1];rw [hl n hc.1]
 | fn f caps=>
  simp only [o1]
  congr 1
  have:caps.map r=caps.map id:=List.map_congr_left fun n hn=>hl n (hc.2 n hn).1
  simpa using this
 | _=>rfl
theorem Ds {S:bN} (hS:S.next=base) (hl:∀n,n < base->r n=n):∀{cs:List C} {vs:List Value},eP cx.eT S cs vs->uw r cs=cs
 | _,_, .nil=>rfl
 | _,_, .cons h1 _ h3=>by simp only [uw];rw [Gy hS hl h1,Ds hS hl h3]
theorem A6 {S:bN} (hS:S.next=base) (hl:∀n,n < base->r n=n) {x:dE} {v:Value} (hc:jt cx.eT S x v):tw r x=x:=by
 cases x with
 | one c=>simp only [tw];rw [Gy hS hl hc]
 | agg cs=>obtain ⟨vs,_,hv⟩:=hc;simp only [tw];rw [Ds hS hl hv]
theorem yC {S:bN} (hS:S.next=base) (hl:∀n,n < base->r n=n):∀{cs:List dE} {vs:List Value},dR cx.eT S cs vs->tx r cs=cs
 | _,_, .nil=>rfl
 | _,_, .cons h1 h3=>by simp only [tx];rw [A6 hS hl h1,yC hS hl h3]
theorem Ol {S:bN} (hS:S.next=base) (hl:∀n,n < base->r n=n) {x:SV} {v:Value} (hc:eH cx.eT S x v):xZ r x=x:=by
 cases x with
 | s x=>simp only [xZ];rw [A6 hS hl hc]
 | nx xs=>obtain ⟨vs,_,hv⟩:=hc;simp only [xZ];rw [yC hS hl hv]
end
theorem gM.Vq {O:aM} {K:St->VC} {W:List Nat} {st:St} {loc:Nat->Loc} {w:World} {a a':Act} {w':World} {f:St->St} (hA:ju cx (aB O st loc w) st a)
  (hf:∀st',f st'=st'\/∃r q,mg st.next st'.next r q/\f st'=kI r st') (h:gM cx X O (fun st'=>K (f st')) W st (aB O st loc w) a' w'):gM cx X O K W st (aB O st loc w) a' w':=by
 obtain ⟨st',loc',k1,k2,k3,k4,k5⟩:=h
 rcases hf st' with e | ⟨r,q,ht,e⟩
 ·exact ⟨st',loc',by rw [<-e];exact k1,k2,k3,k4,k5⟩
 ·refine ⟨kI r st',fun m=>loc' (q m),by rw [<-e];exact k1,Q2 ht k2,Ue ht k2 rfl k3.next k3,⟨k4.size,k4.defers,?_⟩,?_⟩
  ·intro t sv hl
   have hl:look (tz r st'.env) t=some sv:=hl
   rw [yB] at hl
   obtain ⟨sv0,h0,rfl⟩:=Option.map_eq_some_iff.1 hl
   exact Tk ht k2 (k4.env t sv0 h0)
  ·intro hm t htW sv hl
   have hl:look (tz r st'.env) t=some sv:=hl
   rw [yB] at hl
   obtain ⟨sv0,h0,rfl⟩:=Option.map_eq_some_iff.1 hl
   have h1:=k5 hm t htW sv0 h0
   rw [Ol (cx:=cx) (S:=aB O st loc w) rfl ht.low (hA.env t sv0 h1)]
   exact h1
end
def KQ:C->List Nat
 | .app _ _ n | .bE n | .og n | .eZ n | .xd n _ | .ref n _ | .ra n | .lG n _ _ _ | .oN n _ _ _=>[n]
 | .fn _ caps=>caps
 | _=>[]
def CL:List C->List Nat
 | []=>[]
 | c :: cs=>KQ c++CL cs
def Uf (aK:List (Nat × OC)):C->List Nat
 | .ref n _=>n :: (match look aK n with
  | some (.cells _ cs)=>CL cs
  | _=>[])
 | c=>KQ c
def Tl (aK:List (Nat × OC)):SV->List Nat
 | .s (.one c)=>Uf aK c
 | .s (.agg cs)=>CL cs
 | .nx _=>[]
def KR (st:St):List Nat->List Nat
 | []=>[]
 | d :: ds=>(match look st.env d with
  | some sv=>Tl st.aK sv
  | none=>[])++KR st ds
def SP (n:Nat):List Nat->Bool
 | []=>false
 | m :: l=>match Nat.beq m n with
  | true=>true
  | false=>SP n l
def FL (base next:Nat):List Nat->List Nat->List Nat
 | acc,[]=>acc
 | acc,n :: l=>match Nat.blt n base || !(Nat.blt n next) || SP n acc with
  | true=>FL base next acc l
  | false=>FL base next (acc++[n]) l
def Ug (base:Nat):Nat->List Nat
 | 0=>[]
 | k + 1=>Ug base k++[base + k]
def Uh (n:Nat):List Nat->Nat->Nat
 | [],_=>n
 | m :: l,i=>match Nat.beq m n with
  | true=>i
  | false=>Uh n l (i + 1)
def Vh:List Nat->Nat->Nat->Nat
 | [],_,d=>d
 | m :: _,0,_=>m
 | _ :: l,i + 1,d=>Vh l i d
def r7 (base:Nat) (l:List Nat) (n:Nat):Nat:=match Nat.blt n base with
 | true=>n
 | false=>Uh n l base
def ux (base:Nat) (l:List Nat) (n:Nat):Nat:=match Nat.blt n base with
 | true=>n
 | false=>Vh l (n - base) n
def FM (base:Nat) (l:List Nat):Nat->Nat->Bool
 | _,0=>true
 | next,k + 1=>Nat.blt (r7 base l k) next && Nat.beq (ux base l (r7 base l k)) k && Nat.blt (ux base l k) next && Nat.beq (r7 base l (ux base l k)) k && FM base l next k
def canon (base:Nat) (ds:List Nat) (st:St):St:=
 match Nat.blt (base + 1) st.next with
 | false=>st
 | true=>
  let l:=FL base st.next (FL base st.next [] (KR st ds)) (Ug base (st.next - base))
  match FM base l st.next st.next with
  | true=>kI (r7 base l) st
  | false=>st
theorem r8 {base:Nat} {l:List Nat} {next:Nat}:∀k,FM base l next k=true->∀n,n < k->r7 base l n < next/\ux base l (r7 base l n)=n/\ux base l n < next/\r7 base l (ux base l n)=n:=by
 intro k
 induction k with
 | zero=>intro _ n hn;omega
 | succ k ih=>
  intro h n hn
  simp only [FM,Bool.and_eq_true] at h
  obtain ⟨⟨⟨⟨h1,h2⟩,h3⟩,h4⟩,h5⟩:=h
  rcases Nat.lt_or_ge n k with hk | hk
  ·exact ih h5 n hk
  ·obtain rfl:n=k:=by omega
   exact ⟨nE h1,Nat.eq_of_beq_eq_true h2,nE h3,Nat.eq_of_beq_eq_true h4⟩
theorem L2 (base:Nat) (ds:List Nat) (st:St):canon base ds st=st\/∃r q,mg base st.next r q/\canon base ds st=kI r st:=by
 unfold canon
 split
 ·exact .inl rfl
 ·simp only
  split
  ·rename_i h
   refine .inr ⟨_,ux base _,⟨fun n hn => ?_,fun n hn=>(r8 _ h n hn).1,fun n hn=>(r8 _ h n hn).2.1,fun n hn=>(r8 _ h n hn).2.2.1,fun n hn=>(r8 _ h n hn).2.2.2⟩,rfl⟩
   unfold r7
   have:Nat.blt n base=true:=Nat.ble_eq_true_of_le hn
   rw [this]
  ·exact .inl rfl
end Go.Vg

namespace Go.Vg
open Go.RowKit
theorem VR.CM {eT:TypeId} {t:Ty} {x:D t} {A A':aM} {w:World} {v:Value} (h:VR eT t x A w v) (hA:∀b o,¬ A b o->¬ A' b o):VR eT t x A' w v:=
 VR.frame h fun b o _ ha hc=>⟨hc,hA b o ha⟩
inductive Cl where
 | d (t:Ty)
 | obj (k:Nat)
 | iv
inductive Ob where
 | box (T:TypeId) (cs:List Cl)
 | row (aX:Bool) (t:Ty)
 | tok (t:Ty)
 | ext (k:Nat) (t:Ty)
@[reducible] def CD:List Cl->Type
 | []=>Unit
 | .d t :: r=>D t × CD r
 | .obj _ :: r=>CD r
 | .iv :: r=>CD r
@[reducible] def OD:Ob->Type
 | .box _ cs=>CD cs
 | .row _ t=>List (D t)
 | .tok t=>List (D t)
 | .ext _ t=>D t
@[reducible] def PD:List Ob->Type
 | []=>Unit
 | o :: r=>OD o × PD r
def Ui:(o:Ob)->OD o->Nat->C
 | .box _ _,_,n => .ref n 0
 | .row _ _,_,n => .bE n
 | .tok t,x,n => .app t x n
 | .ext 0 _,_,n => .xd n .top
 | .ext (_ + 1) _,_,n => .eZ n
def iA:(aU:List Ob)->PD aU->List Nat->Nat->C
 | o :: _,x,n :: _,0=>Ui o x.1 n
 | _ :: r,x,_ :: ns,k + 1=>iA r x.2 ns k
 | _,_,_,_ => .any
def Gz (f:Nat->C):(cs:List Cl)->CD cs->List C
 | [],_=>[]
 | .d t :: r,x => .d t x.1 :: Gz f r x.2
 | .obj k :: r,x=>f k :: Gz f r x
 | .iv :: r,x => .iv :: Gz f r x
def Ab (f:Nat->C):(cs:List Cl)->CD cs->List dE
 | [],_=>[]
 | .d t :: r,x => .one (.d t x.1) :: Ab f r x.2
 | .obj k :: r,x => .one (f k) :: Ab f r x
 | .iv :: r,x => .one .iv :: Ab f r x
def rn (f:Nat->C):(o:Ob)->OD o->OC
 | .box T cs,x => .cells T (Gz f cs x)
 | .row _ t,x => .bE t x
 | .tok t,x => .tok t x
 | .ext k t,x => .ext k t x
def lM (f:Nat->C):(os:List Ob)->PD os->List Nat->List (Nat × OC)
 | o :: r,x,n :: ns=>(n,rn f o x.1) :: lM f r x.2 ns
 | _,_,_=>[]
def SQ:C->Option Nat
 | .ref n 0=>some n
 | .bE n=>some n
 | .app _ _ n=>some n
 | .eZ n=>some n
 | .xd n .top=>some n
 | _=>none
def Om (Vy:List (Nat × Nat)) (cl:Cl) (c:C):Option (List (Nat × Nat)):=
 match cl with
 | .obj k=>match SQ c with
  | some n=>match look Vy k with
   | some m=>match Nat.beq m n with
    | true=>some Vy
    | false=>none
   | none=>some ((k,n) :: Vy)
  | none=>none
 | _=>some Vy
def KS:List Cl->List C->List (Nat × Nat)->Option (List (Nat × Nat))
 | [],[],Vy=>some Vy
 | cl :: cls,c :: cs,Vy=>match Om Vy cl c with
  | some as'=>KS cls cs as'
  | none=>none
 | _,_,_=>none
def On:List Cl->List dE->List (Nat × Nat)->Option (List (Nat × Nat))
 | [],[],Vy=>some Vy
 | cl :: cls,v :: vs,Vy=>match Om Vy cl (match v with | .one c=>c | .agg _ => .any) with
  | some as'=>On cls vs as'
  | none=>none
 | _,_,_=>none
def x9 (aK:List (Nat × OC)):Nat->List Ob->List (Nat × Nat)->Option (List (Nat × Nat))
 | _,[],Vy=>some Vy
 | k, .box _ cls :: r,Vy=>match look Vy k with
  | some n=>match look aK n with
   | some (.cells _ cs)=>match KS cls cs Vy with
    | some as'=>x9 aK (k + 1) r as'
    | none=>none
   | _=>none
  | none=>none
 | k,_ :: r,Vy=>x9 aK (k + 1) r Vy
def wz (Vy:List (Nat × Nat)):Nat->Nat->Option (List Nat)
 | _,0=>some []
 | k,m + 1=>match look Vy k,wz Vy (k + 1) m with
  | some n,some l=>some (n :: l)
  | _,_=>none
def nodupB:List Nat->Bool
 | []=>true
 | n :: r => !(oq n r) && nodupB r
def wA:List Nat->Nat->Option Nat
 | n :: _,0=>some n
 | _ :: r,k + 1=>wA r k
 | [],_=>none
def uy:List Ob->Nat->Option Ob
 | o :: _,0=>some o
 | _ :: r,k + 1=>uy r k
 | [],_=>none
def ke (cv:Bool) (aK:List (Nat × OC)) (aU:List Ob) (ν:List Nat) (k:Nat) (c:C):Bool:=
 match uy aU k,wA ν k,c with
 | some (.box _ _),some n, .ref m 0=>Nat.beq n m
 | some (.row _ _),some n, .bE m=>Nat.beq n m && (match look aK n with | some (.bE _ _)=>true | _=>false)
 | some (.row _ t),some n, .app t' _ m=>cv && (Nat.beq n m && (Ty.beq t' t && (match look aK n with | some (.tok _ _)=>true | _=>false)))
 | some (.tok t),some n, .app t' _ m=>Nat.beq n m && Ty.beq t' t
 | some (.ext 0 _),some n, .xd m .top=>Nat.beq n m
 | some (.ext (_ + 1) _),some n, .eZ m=>Nat.beq n m
 | _,_,_=>false
def nI (cv:Bool) (aK:List (Nat × OC)) (aU:List Ob) (ν:List Nat):(cls:List Cl)->List C->Option (CD cls)
 | [],[]=>some ()
 | .d t :: r,c :: cs=>match vF t c,nI cv aK aU ν r cs with
  | some x,some y=>some (x,y)
  | _,_=>none
 | .obj k :: r,c :: cs=>match ke cv aK aU ν k c with
  | true=>nI cv aK aU ν r cs
  | false=>none
 | .iv :: r,c :: cs=>match c with
  | .iv=>nI cv aK aU ν r cs
  | _=>none
 | _,_=>none
def mm (cv:Bool) (aK:List (Nat × OC)) (aU:List Ob) (ν:List Nat):(cls:List Cl)->List dE->Option (CD cls)
 | [],[]=>some ()
 | .d t :: r,v :: vs=>match qq t v,mm cv aK aU ν r vs with
  | some x,some y=>some (x,y)
  | _,_=>none
 | .obj k :: r,v :: vs=>match v with
  | .one c=>match ke cv aK aU ν k c with
   | true=>mm cv aK aU ν r vs
   | false=>none
  | _=>none
 | .iv :: r,v :: vs=>match v with
  | .one .iv=>mm cv aK aU ν r vs
  | _=>none
 | _,_=>none
def Oo (t t':Ty) (xs:List (D t')):Option (List (D t)):=
 match h:Ty.beq (.slice t') (.slice t) with
 | true=>some (cR h (a:=.slice t') (b:=.slice t) xs)
 | false=>none
def Uj (t t':Ty) (x:D t'):Option (D t):=
 match h:Ty.beq t' t with
 | true=>some (cR h x)
 | false=>none
def kj (cv:Bool) (aK:List (Nat × OC)) (aU:List Ob) (ν:List Nat):(o:Ob)->OC->Option (OD o)
 | .box T cls, .cells T' cs=>match Nat.beq T' T with
  | true=>nI cv aK aU ν cls cs
  | false=>none
 | .row _ t, .bE t' xs=>Oo t t' xs
 | .row _ t, .tok t' xs=>match cv with
  | true=>Oo t t' xs
  | false=>none
 | .tok t, .tok t' xs=>Oo t t' xs
 | .ext k t, .ext k' t' x=>match Nat.beq k' k with
  | true=>Uj t t' x
  | false=>none
 | _,_=>none
def eS (cv:Bool) (aK:List (Nat × OC)) (aU:List Ob) (ν:List Nat):(os:List Ob)->List Nat->Option (PD os)
 | [],[]=>some ()
 | o :: r,n :: ns=>match look aK n with
  | some oc=>match kj cv aK aU ν o oc,eS cv aK aU ν r ns with
   | some x,some y=>some (x,y)
   | _,_=>none
  | none=>none
 | _,_=>none
def sO:(os:List Ob)->PD os->Nat->C->List Prop
 | .tok t :: _,x,0, .app t' xs _=>match h:Ty.beq (.slice t') (.slice t) with
  | true=>[cR h (a:=.slice t') (b:=.slice t) xs=x.1]
  | false=>[False]
 | .row _ t :: _,x,0, .app t' xs _=>match h:Ty.beq (.slice t') (.slice t) with
  | true=>[cR h (a:=.slice t') (b:=.slice t) xs=x.1]
  | false=>[False]
 | _ :: r,x,k + 1,c=>sO r x.2 k c
 | _,_,_,_=>[]
def pD (aU:List Ob) (x:PD aU):List Cl->List C->List Prop
 | .obj k :: r,c :: cs=>sO aU x k c++pD aU x r cs
 | _ :: r,_ :: cs=>pD aU x r cs
 | _,_=>[]
def mB (aU:List Ob) (x:PD aU):List Cl->List dE->List Prop
 | .obj k :: r,v :: vs=>(match v with | .one c=>sO aU x k c | .agg _=>[])++mB aU x r vs
 | _ :: r,_ :: vs=>mB aU x r vs
 | _,_=>[]
def jy (aU:List Ob) (x:PD aU) (aK:List (Nat × OC)):List Ob->List Nat->List Prop
 | .box _ cls :: r,n :: ns=>(match look aK n with | some (.cells _ cs)=>pD aU x cls cs | _=>[])++jy aU x aK r ns
 | _ :: r,_ :: ns=>jy aU x aK r ns
 | _,_=>[]
def L3:List Prop->Prop
 | []=>True
 | [p]=>p
 | p :: q :: r=>p/\L3 (q :: r)
def Q4:List Prop->VC->VC
 | [],k=>k
 | p :: r,k => .and p (Q4 r k)
theorem uz {n:Nat}:∀{l:List Nat},oq n l=true->n∈l
 | [],h=>by simp [oq] at h
 | m :: r,h=>by
  simp only [oq] at h
  split at h
  ·rename_i e;rw [Nat.eq_of_beq_eq_true e];simp
  ·simp [uz h]
theorem fB {α:Type} (l r:List (Nat × α)) (n:Nat):look (l++r) n=match look l n with | some x=>some x | none=>look r n:=by
 induction l with
 | nil=>rfl
 | cons p l ih=>
  obtain ⟨m,x⟩:=p
  simp only [List.cons_append,look]
  cases Nat.beq m n
  ·exact ih
  ·rfl
section
variable (eT:TypeId) (X:Ext)
def wB:Value->Value
 | .tuple vs=>vs.toList.headD .nilFunc
 | v=>v
def CN (ls:List Loc) (k:Nat) (v:Value):Prop:=∃l,ls[k]?=some l/\v=wB l.v
def sP (S:bN) (F:Nat->Value->Prop):(cls:List Cl)->CD cls->List Value->Prop
 | [],_,vs=>vs = []
 | .d t :: r,x,v :: vs=>VR eT t x.1 S.A S.w v/\sP S F r x.2 vs
 | .obj k :: r,x,v :: vs=>F k v/\sP S F r x vs
 | .iv :: r,x,v :: vs=>v = .pointer none/\sP S F r x vs
 | _,_,_=>False
def Oq (S:bN) (F:Nat->Value->Prop):(o:Ob)->OD o->Loc->Prop
 | .box T cls,x,l=>∃b,∃vs:List Value,l.v = .pointer (some ⟨b,0,none⟩)/\l.bs = [b]/\S.w.heap[b]?=some (.cells vs.toArray T (0,0))/\sP eT S F cls x vs/\∀v∈vs,v.oneCell'=true
 | .row _ t,x,l=>OR eT X S l (.bE t x)
 | .tok t,x,l=>OR eT X S l (.tok t x)
 | .ext k t,x,l=>OR eT X S l (.ext k t x)
def L4 (S:bN) (F:Nat->Value->Prop):(os:List Ob)->PD os->List Loc->Prop
 | [],_,ls=>ls = []
 | o :: r,x,l :: ls=>Oq eT X S F o x.1 l/\L4 S F r x.2 ls
 | _,_,_=>False
end
section
variable {eT:TypeId} {X:Ext}
theorem kW {a b:List Prop}:(∀p∈a++b,p) ↔ (∀p∈a,p)/\(∀p∈b,p):=by
 simp only [List.mem_append]
 exact ⟨fun h=>⟨fun p hp=>h p (.inl hp),fun p hp=>h p (.inr hp)⟩,fun h p hp=>hp.elim (h.1 p) (h.2 p)⟩
theorem Ac:∀{l:List Prop},L3 l->∀p∈l,p
 | [],_=>fun p hp=>by simp at hp
 | [q],h=>fun p hp=>by simp at hp;rw [hp];exact h
 | q :: r :: l,h=>fun p hp=>by
  rcases List.mem_cons.1 hp with e | hp
  ·rw [e];exact h.1
  ·exact Ac h.2 p hp
theorem GA {k:VC}:∀{l:List Prop},(Q4 l k).holds->(∀p∈l,p)/\k.holds
 | [],h=>⟨fun p hp=>by simp at hp,h⟩
 | q :: l,h=>by
  obtain ⟨h1,h2⟩:=h
  obtain ⟨h3,h4⟩:=GA h2
  exact ⟨fun p hp=>by
   rcases List.mem_cons.1 hp with e | hp
   ·rw [e];exact h1
   ·exact h3 p hp,h4⟩
theorem ow {t t':Ty} {xs:List (D t')} {ys:List (D t)} (h:Oo t t' xs=some ys):∃e:t'=t,e▸xs=ys:=by
 unfold Oo at h
 split at h
 ·rename_i hb
  have:t'=t:=by have:=Ty.eq_of_beq hb;cases this;rfl
  subst this
  cases h
  exact ⟨rfl,by rw [gB]⟩
 ·cases h
theorem GB {t t':Ty} {x:D t'} {y:D t} (h:Uj t t' x=some y):∃e:t'=t,e▸x=y:=by
 unfold Uj at h
 split at h
 ·rename_i hb
  have:=Ty.eq_of_beq hb
  subst this
  cases h
  exact ⟨rfl,by rw [jS]⟩
 ·cases h
theorem KT {t t':Ty} {xs:List (D t')} {ys:List (D t)} (hb:Ty.beq t' t=true) (h:∀p∈(match h:Ty.beq (.slice t') (.slice t) with
  | true=>[cR h (a:=.slice t') (b:=.slice t) xs=ys]
  | false=>[False]),p):∃e:t'=t,e▸xs=ys:=by
 have:=Ty.eq_of_beq hb
 subst this
 refine ⟨rfl,?_⟩
 split at h
 ·rename_i hb'
  have:=h (cR hb' (a:=.slice t') (b:=.slice t') xs=ys) (by simp)
  rw [gB] at this
  exact this
 ·exact (h False (by simp)).elim
theorem CO {cv:Bool} {aU:List Ob} {ν:List Nat} {O:aM} {st:St} {loc:Nat->Loc} {w:World} {c:C} {v:Value} (g:Good eT X (aB O st loc w)) (hc:CR eT (aB O st loc w) c v) :
  ∀{os:List Ob} {ns:List Nat} {x:PD os} {k:Nat},eS cv st.aK aU ν os ns=some x->ke cv st.aK os ns k c=true->(∀p∈sO os x k c,p)->CN (ns.map loc) k v:=by
 intro os
 induction os with
 | nil=>intro ns x k _ h;simp [ke,uy] at h
 | cons o r ih=>
  intro ns x k hg hs hp
  cases ns with
  | nil=>simp [eS] at hg
  | cons n ns=>
   simp only [eS] at hg
   split at hg
   case h_2=>cases hg
   rename_i oc hob
   split at hg
   case h_2=>cases hg
   rename_i x0 y0 h1 h2
   cases hg
   cases k with
   | succ k=>
    have hs':ke cv st.aK r ns k c=true:=by simpa [ke,uy,wA] using hs
    have hp':∀p∈sO r y0 k c,p:=by cases o <;> cases c <;> simpa [sO] using hp
    obtain ⟨l,h3,h4⟩:=ih h2 hs' hp'
    exact ⟨l,by simpa using h3,h4⟩
   | zero=>
    refine ⟨loc n,by simp,?_⟩
    cases o with
    | box T cls=>
     cases c <;> simp [ke,uy,wA] at hs
     rename_i m off
     cases off with
     | succ off=>simp at hs
     | zero=>
      have hs:n=m:=by simpa using hs
      subst hs
      cases oc <;> simp only [kj,reduceCtorEq] at h1
      obtain ⟨b,k1,k2⟩:=hc.2 _ _ hob
      have k1:(loc n).v=_:=k1
      rw [k2,k1];rfl
    | row kp t=>
     cases c <;> simp [ke,uy,wA] at hs
     ·rename_i t' xs m
      obtain ⟨_,hs,hb,hk⟩:=hs
      subst hs
      simp only [sO] at hp
      obtain ⟨e,he⟩:=KT hb hp
      subst e
      rw [hob] at hk
      cases oc <;> simp at hk
      rename_i t2 ys
      cases cv <;> simp only [kj,reduceCtorEq] at h1
      obtain ⟨e2,h3⟩:=ow h1
      subst e2
      simp only at h3 he
      subst h3
      subst he
      have hv:=(hc.2.2 _ hob).2 rfl
      rcases (g.obj n _ hob).2 with ⟨_,⟨a,ha⟩,_⟩ | ⟨b,vs,T,cap,ha,_⟩ <;> (rw [hv];show (loc n).v=wB (loc n).v;rw [show (loc n).v=_ from ha];rfl)
     ·rename_i m
      obtain ⟨hs,hk⟩:=hs
      subst hs
      rw [hob] at hk
      cases oc <;> simp at hk
      rw [hc.2 _ _ hob]
      rcases (g.obj n _ hob).2 with ⟨_,⟨a,ha⟩,_⟩ | ⟨b,vs,T,cap,ha,_⟩ <;> rw [show (aB O st loc w).loc n=loc n from rfl,show (loc n).v=_ from ha] <;> rfl
    | tok t=>
     cases c <;> simp [ke,uy,wA] at hs
     rename_i t' xs m
     obtain ⟨hs,hb⟩:=hs
     subst hs
     simp only [sO] at hp
     obtain ⟨e,he⟩:=KT hb hp
     subst e
     cases oc <;> simp only [kj,reduceCtorEq] at h1
     obtain ⟨e2,h3⟩:=ow h1
     subst e2
     simp only at h3 he
     subst h3
     subst he
     have hv:=(hc.2.2 _ hob).2 rfl
     rcases (g.obj n _ hob).2 with ⟨_,⟨a,ha⟩,_⟩ | ⟨b,vs,T,cap,ha,_⟩ <;> (rw [hv];show (loc n).v=wB (loc n).v;rw [show (loc n).v=_ from ha];rfl)
    | ext k t=>
     cases k with
     | zero=>
      cases c <;> simp [ke,uy,wA] at hs
      rename_i m p
      cases p <;> simp at hs
      subst hs
      cases oc <;> simp only [kj,reduceCtorEq] at h1
      split at h1
      case h_2=>cases h1
      rename_i hk
      have hk:=Nat.eq_of_beq_eq_true hk
      subst hk
      obtain ⟨hs',hl⟩:=hc.2 _ _ hob
      rw [show (loc n).v=_ from hl];rfl
     | succ k=>
      cases c <;> simp [ke,uy,wA] at hs
      subst hs
      cases oc <;> simp only [kj,reduceCtorEq] at h1
      split at h1
      case h_2=>cases h1
      rename_i hk
      have hk:=Nat.eq_of_beq_eq_true hk
      have hgx:=(g.obj n _ hob).2
      have hv:∃u,(loc n).v=u/\wB u=u:=by
       subst hk
       cases k with
       | zero=>obtain ⟨e,_,b,es,fC,hm⟩:=X.map.1 hgx;exact ⟨_,hm.lv,rfl⟩
       | succ k=>obtain ⟨a,ha⟩:=X.ptr (by omega) hgx;exact ⟨_,ha,rfl⟩
      obtain ⟨u,hu,hu2⟩:=hv
      rw [hc.2 _ hob rfl,show (aB O st loc w).loc n=loc n from rfl,hu];exact hu2.symm
theorem L5 {cv:Bool} {aU:List Ob} {ν:List Nat} {x:PD aU} {O:aM} {st:St} {loc:Nat->Loc} {w:World} (g:Good eT X (aB O st loc w)) (hx:eS cv st.aK aU ν aU ν=some x) :
  ∀{cls:List Cl} {cs:List C} {y:CD cls} {vs:List Value},nI cv st.aK aU ν cls cs=some y->eP eT (aB O st loc w) cs vs->(∀p∈pD aU x cls cs,p)->
   sP eT (aB O st loc w) (CN (ν.map loc)) cls y vs:=by
 intro cls
 induction cls with
 | nil=>
  intro cs y vs h hc _
  cases cs with
  | nil=>cases hc;exact rfl
  | cons c cs=>simp [nI] at h
 | cons cl r ih=>
  intro cs y vs h hc hp
  cases hc with
  | nil=>cases cl <;> simp [nI] at h
  | cons h1 h2 h3=>
   rename_i c v cs vs
   cases cl with
   | d t=>
    simp only [nI] at h
    split at h
    ·rename_i x0 y0 k1 k2
     cases h
     exact ⟨tg k1 h1,ih k2 h3 (fun p hp'=>hp p (by simpa [pD] using hp'))⟩
    ·cases h
   | obj k=>
    simp only [nI] at h
    split at h
    ·rename_i hs
     simp only [pD] at hp
     obtain ⟨p1,p2⟩:=kW.1 hp
     exact ⟨CO g h1 hx hs p1,ih h h3 p2⟩
    ·cases h
   | iv=>
    simp only [nI] at h
    split at h
    ·exact ⟨h1,ih h h3 (fun p hp'=>hp p (by simpa [pD] using hp'))⟩
    ·cases h
theorem Dt {cv:Bool} {aU:List Ob} {ν:List Nat} {x:PD aU} {O:aM} {st:St} {loc:Nat->Loc} {w:World} (g:Good eT X (aB O st loc w)) (hx:eS cv st.aK aU ν aU ν=some x) :
  ∀{cls:List Cl} {cs:List dE} {y:CD cls} {vs:List Value},mm cv st.aK aU ν cls cs=some y->dR eT (aB O st loc w) cs vs->(∀p∈mB aU x cls cs,p)->
   sP eT (aB O st loc w) (CN (ν.map loc)) cls y vs:=by
 intro cls
 induction cls with
 | nil=>
  intro cs y vs h hc _
  cases cs with
  | nil=>cases hc;exact rfl
  | cons c cs=>simp [mm] at h
 | cons cl r ih=>
  intro cs y vs h hc hp
  cases hc with
  | nil=>cases cl <;> simp [mm] at h
  | cons h1 h3=>
   rename_i c v cs vs
   cases cl with
   | d t=>
    simp only [mm] at h
    split at h
    ·rename_i x0 y0 k1 k2
     cases h
     exact ⟨lK k1 h1,ih k2 h3 (fun p hp'=>hp p (by simpa [mB] using hp'))⟩
    ·cases h
   | obj k=>
    simp only [mm] at h
    split at h
    ·split at h
     ·rename_i hs
      simp only [mB] at hp
      obtain ⟨p1,p2⟩:=kW.1 hp
      exact ⟨CO g h1 hx hs p1,ih h h3 p2⟩
     ·cases h
    ·cases h
   | iv=>
    simp only [mm] at h
    split at h
    ·exact ⟨h1,ih h h3 (fun p hp'=>hp p (by simpa [mB] using hp'))⟩
    ·cases h
theorem qE {cv:Bool} {aU:List Ob} {ν:List Nat} {x:PD aU} {O:aM} {st:St} {loc:Nat->Loc} {w:World} (g:Good eT X (aB O st loc w)) (hx:eS cv st.aK aU ν aU ν=some x) :
  ∀{os:List Ob} {ns:List Nat} {y:PD os},eS cv st.aK aU ν os ns=some y->(∀p∈jy aU x st.aK os ns,p)->
   L4 eT X (aB O st loc w) (CN (ν.map loc)) os y (ns.map loc):=by
 intro os
 induction os with
 | nil=>
  intro ns y h _
  cases ns with
  | nil=>exact rfl
  | cons n ns=>simp [eS] at h
 | cons o r ih=>
  intro ns y h hp
  cases ns with
  | nil=>simp [eS] at h
  | cons n ns=>
   simp only [eS] at h
   split at h
   case h_2=>cases h
   rename_i oc hob
   split at h
   case h_2=>cases h
   rename_i x0 y0 h1 h2
   cases h
   have hor:=(g.obj n oc hob).2
   have hrest:∀p∈jy aU x st.aK r ns,p:=by
    cases o <;> simp only [jy] at hp
    ·exact (kW.1 hp).2
    ·exact hp
    ·exact hp
    ·exact hp
   refine ⟨?_,ih h2 hrest⟩
   show Oq eT X _ _ o x0 (loc n)
   cases o with
   | box T cls=>
    cases oc <;> simp only [kj,reduceCtorEq] at h1
    rename_i T' cs
    split at h1
    case h_2=>cases h1
    rename_i hT
    have hT:=Nat.eq_of_beq_eq_true hT
    subst hT
    obtain ⟨b,vs,k1,k2,k3,k4⟩:=hor
    simp only [jy,hob] at hp
    exact ⟨b,vs,k1,k2,k3,L5 g hx h1 k4 (kW.1 hp).1,fun v hv=>eP.F9 k4 v hv⟩
   | row kp t=>
    cases oc <;> simp only [kj,reduceCtorEq] at h1
    ·obtain ⟨e,h3⟩:=ow h1
     subst e;simp only at h3;subst h3
     exact hor
    ·split at h1
     ·obtain ⟨e,h3⟩:=ow h1
      subst e;simp only at h3;subst h3
      exact hor
     ·cases h1
   | tok t=>
    cases oc <;> simp only [kj,reduceCtorEq] at h1
    obtain ⟨e,h3⟩:=ow h1
    subst e;simp only at h3;subst h3
    exact hor
   | ext k t=>
    cases oc <;> simp only [kj,reduceCtorEq] at h1
    split at h1
    case h_2=>cases h1
    rename_i hk
    have hk:=Nat.eq_of_beq_eq_true hk
    subst hk
    obtain ⟨e,h3⟩:=GB h1
    subst e;simp only at h3;subst h3
    exact hor
end
end Go.Vg

