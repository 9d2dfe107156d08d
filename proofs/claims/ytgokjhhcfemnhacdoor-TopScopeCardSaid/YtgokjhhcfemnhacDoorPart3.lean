/- A part of the proof that the law TopScopeCard holds of the given program: facts that are used there. -/
import Derived.Test.YtgokjhhcfemnhacDoorPart2
import Derived.Handed
import Derived.Clock
import Derived.Lib.LaidTab
import Derived.Lib.LaidU8
import Derived.Lay
set_option linter.unusedSimpArgs false
set_option linter.unusedVariables false
namespace Go.Mrl
open Go.Vg
@[reducible] def bC:aE:=[119,101,97,107,32]
@[reducible] def dK:aE:=[110,101,101,100]
@[reducible] def dx:aE:=[119,111,114,100]
@[reducible] def cW:aE:=[115,121,109,98,111,108]
@[reducible] def fg:aE:=[98,97,115,101]
@[reducible] def ew:aE:=[119,104,111,108,101]
@[reducible] def ep:aE:=[110,101,97,114]
def iO (o:D aB) (s:aE):D aB:=(o.1++[s],o.2)
def iP (o:D aB) (n:Int):D aB:=(o.1,o.2.1++[n],o.2.2)
def lX (o:D aB) (y:D aF):D aB:=(o.1,o.2.1,o.2.2.1++[y],o.2.2.2)
def ic (o:D aB) (t:D aN):D aB:=(o.1,o.2.1,o.2.2.1,o.2.2.2.1++[t],())
def pW (x y:aE) (k:Int->Int->D aB):Option (D aB):=
 match cj x,cj y with
 | some m,some n=>some (k m n)
 | _,_=>none
def fy (o:D aB) (b:Bool):List aE->Option (D aB)
 | [a,x]=>if a=dK then some (iO o x) else if a=dx then (cj x).map (iP o) else none
 | [a,x,y]=>if a=cW then (cj y).map fun n=>lX o (x,n,b,()) else if a=fg then pW x y fun m n=>ic o (m,1,n,[],false,()) else none
 | [a,x,y,z]=>if a=ew\/a=ep then pW x y fun m n=>ic o (m,if a=ep then 3 else 2,n,z,b,()) else none
 | _=>none
def ie (o:D aB) (s:aE):Option (D aB):=fy o (Lib.hasPrefix s bC) (parts 32 (Lib.trimPrefix s bC))
def run (f:D aB->aE->Option (D aB)):D aB->List aE->Option (D aB)
 | o,[]=>some o
 | o,s :: r=>match f o s with
  | some p=>run f p r
  | none=>none
theorem vm {f:D aB->aE->Option (D aB)}:∀{l:List aE} {o:D aB} {s:aE},run f o (l++[s])=(run f o l).bind fun p=>f p s
 | [],o,s=>by simp only [List.nil_append,run,Option.bind_some];cases f o s <;> rfl
 | x :: r,o,s=>by
  simp only [List.cons_append,run]
  cases f o x with
  | none=>rfl
  | some p=>exact vm
theorem oO {f:D aB->aE->Option (D aB)}:∀{l m:List aE} {o p:D aB},run f o l=some p->run f o (l++m)=run f p m
 | [],m,o,p,h=>by simp only [run,Option.some.injEq] at h;rw [h];rfl
 | x :: r,m,o,p,h=>by
  simp only [run] at h
  simp only [List.cons_append,run]
  cases hx:f o x with
  | none=>rw [hx] at h;cases h
  | some q=>rw [hx] at h;exact oO h
def ig (s:aE):aE:=[110,101,101,100,32]++s
def ij (n:Int):aE:=[119,111,114,100,32]++Lib.itoa n
def pX (y:D aF):aE:=cR y.2.2.1++([115,121,109,98,111,108,32]++(y.1++32 :: Lib.itoa y.2.1))
def oe (t:D aN):aE:=
 if t.2.1=1 then [98,97,115,101,32]++(Lib.itoa t.1++32 :: Lib.itoa t.2.2.1)
 else if t.2.1=2 then cR t.2.2.2.2.1++([119,104,111,108,101,32]++(Lib.itoa t.1++32 :: (Lib.itoa t.2.2.1++32 :: t.2.2.2.1)))
 else cR t.2.2.2.2.1++([110,101,97,114,32]++(Lib.itoa t.1++32 :: (Lib.itoa t.2.2.1++32 :: t.2.2.2.1)))
def js (o:D aB):List aE:=o.1.map ig++(o.2.1.map ij++(o.2.2.1.map pX++o.2.2.2.1.map oe))
theorem kq {α:Type} {f g:α->aE} (h:∀x,f x=g x++[10]):∀l:List α,l.flatMap f=jz 10 (l.map g)
 | []=>rfl
 | x :: r=>by rw [List.flatMap_cons,kq h r,List.map_cons,sC,h];simp
theorem pY (c:UInt8) (l m:List aE):jz c (l++m)=jz c l++jz c m:=by simp [jz]
theorem wB (o:D aB):cL o=jz 10 (js o):=by
 unfold cL df fO fN ib js
 rw [List.take_length,List.take_length,List.take_length,List.take_length,pY,pY,pY,
  kq (g:=ig) (fun s=>by simp [oN,ig]) o.1,kq (g:=ij) (fun s=>by simp [mL,ij]) o.2.1,
  kq (g:=pX) (fun s=>by simp [rK,pX]) o.2.2.1,
  kq (g:=oe) (fun s=>by unfold mM oe;split <;> (try split) <;> simp) o.2.2.2.1]
 simp
structure Reads (f:D aB->aE->Option (D aB)):Prop where
 mN:∀(o:D aB) (s:aE),Nm s->f o (ig s)=some (iO o s)
 word:∀(o:D aB) (n:Int),jr (-2147483648) 2147483647 n->f o (ij n)=some (iP o n)
 sym:∀(o:D aB) (y:D aF),Nm y.1->jr 0 39 y.2.1->f o (pX y)=some (lX o y)
 tie:∀(o:D aB) (t:D aN),qY t->f o (oe t)=some (ic o t)
section
variable {f:D aB->aE->Option (D aB)} (h:Reads f)
include h
theorem sO:∀(l:List aE) (o:D aB),(∀s∈l,Nm s)->run f o (l.map ig)=some (o.1++l,o.2)
 | [],o,_=>by simp [run]
 | s :: r,o,hl=>by
  rw [List.map_cons,run,h.mN o s (hl s (by simp))]
  show run f (iO o s) (r.map ig)=_
  rw [sO r _ fun x hx=>hl x (List.mem_cons_of_mem _ hx)]
  simp [iO]
theorem sP:∀(l:List Int) (o:D aB),(∀n∈l,jr (-2147483648) 2147483647 n)->run f o (l.map ij)=some (o.1,o.2.1++l,o.2.2)
 | [],o,_=>by simp [run]
 | s :: r,o,hl=>by
  rw [List.map_cons,run,h.word o s (hl s (by simp))]
  show run f (iP o s) (r.map ij)=_
  rw [sP r _ fun x hx=>hl x (List.mem_cons_of_mem _ hx)]
  simp [iP]
theorem vo:∀(l:List (D aF)) (o:D aB),(∀y∈l,Nm y.1/\jr 0 39 y.2.1)->run f o (l.map pX)=some (o.1,o.2.1,o.2.2.1++l,o.2.2.2)
 | [],o,_=>by simp [run]
 | s :: r,o,hl=>by
  rw [List.map_cons,run,h.sym o s (hl s (by simp)).1 (hl s (by simp)).2]
  show run f (lX o s) (r.map pX)=_
  rw [vo r _ fun x hx=>hl x (List.mem_cons_of_mem _ hx)]
  simp [lX]
theorem vp:∀(l:List (D aN)) (o:D aB),(∀t∈l,qY t)->run f o (l.map oe)=some (o.1,o.2.1,o.2.2.1,o.2.2.2.1++l,())
 | [],o,_=>by simp [run]
 | s :: r,o,hl=>by
  rw [List.map_cons,run,h.tie o s (hl s (by simp))]
  show run f (ic o s) (r.map oe)=_
  rw [vp r _ fun x hx=>hl x (List.mem_cons_of_mem _ hx)]
  simp [ic]
theorem AE {o:D aB} (ok:eU o):run f (bw aB) (js o)=some o:=by
 unfold js
 rw [oO (sO h o.1 _ ok.tO),oO (sP h o.2.1 _ ok.words),oO (vo h o.2.2.1 _ ok.syms),vp h o.2.2.2.1 _ ok.yv]
 rfl
end
theorem q8 {a:UInt8} {s:aE} (h:a≠119):Lib.hasPrefix (a :: s) bC=false:=by
 unfold Lib.hasPrefix bC;simp [List.isPrefixOf];intro e;exact absurd e.symm h
theorem CU {s:aE} (h:Lib.hasPrefix s bC=false):Lib.trimPrefix s bC=s:=by unfold Lib.trimPrefix;rw [if_neg (by rw [h];decide)]
theorem xr (s:aE):Lib.hasPrefix (bC++s) bC=true:=by unfold Lib.hasPrefix bC;simp [List.isPrefixOf]
theorem BT (s:aE):Lib.trimPrefix (bC++s) bC=s:=by unfold Lib.trimPrefix;rw [if_pos (xr s)];rfl
theorem xu {a b:UInt8} {s:aE} (h:b≠101):Lib.hasPrefix (a :: b :: s) bC=false:=by
 unfold Lib.hasPrefix bC;simp [List.isPrefixOf];intro _ e;exact absurd e.symm h
theorem fJ (o:D aB) (b:Bool) (s:aE) (h:Lib.hasPrefix s bC=false):ie o (cR b++s)=fy o b (parts 32 s):=by
 unfold ie
 cases b with
 | false=>show fy o (Lib.hasPrefix s bC) (parts 32 (Lib.trimPrefix s bC))=_;rw [h,CU h]
 | true=>show fy o (Lib.hasPrefix (bC++s) bC) (parts 32 (Lib.trimPrefix (bC++s) bC))=_;rw [xr,BT]
theorem iR {s:aE} (h:Nm s):(32:UInt8)∉s/\(10:UInt8)∉s:=⟨fun hc=>(h.2.2 _ hc).2 rfl,fun hc=>(h.2.2 _ hc).1 rfl⟩
theorem fz (n:Int):(32:UInt8)∉Lib.itoa n:=sH (by decide)
theorem mP (n:Int):(10:UInt8)∉Lib.itoa n:=sH (by decide)
theorem yA {s:aE} (h:Nm s):parts 32 (ig s) = [dK,s]:=by
 show parts 32 (dK++32 :: s)=_
 rw [cw (by decide),eB (iR h).1]
theorem yB (n:Int):parts 32 (ij n) = [dx,Lib.itoa n]:=by
 show parts 32 (dx++32 :: Lib.itoa n)=_
 rw [cw (by decide),eB (fz n)]
theorem AF {s:aE} {n:Int} (h:Nm s):parts 32 ([115,121,109,98,111,108,32]++(s++32 :: Lib.itoa n)) = [cW,s,Lib.itoa n]:=by
 show parts 32 (cW++32 :: (s++32 :: Lib.itoa n))=_
 rw [cw (by decide),cw (iR h).1,eB (fz n)]
theorem yC (m n:Int):parts 32 ([98,97,115,101,32]++(Lib.itoa m++32 :: Lib.itoa n)) = [fg,Lib.itoa m,Lib.itoa n]:=by
 show parts 32 (fg++32 :: (Lib.itoa m++32 :: Lib.itoa n))=_
 rw [cw (by decide),cw (fz m),eB (fz n)]
theorem wC {s:aE} (m n:Int) (h:Nm s):parts 32 ([119,104,111,108,101,32]++(Lib.itoa m++32 :: (Lib.itoa n++32 :: s))) = [ew,Lib.itoa m,Lib.itoa n,s]:=by
 show parts 32 (ew++32 :: (Lib.itoa m++32 :: (Lib.itoa n++32 :: s)))=_
 rw [cw (by decide),cw (fz m),cw (fz n),eB (iR h).1]
theorem yD {s:aE} (m n:Int) (h:Nm s):parts 32 ([110,101,97,114,32]++(Lib.itoa m++32 :: (Lib.itoa n++32 :: s))) = [ep,Lib.itoa m,Lib.itoa n,s]:=by
 show parts 32 (ep++32 :: (Lib.itoa m++32 :: (Lib.itoa n++32 :: s)))=_
 rw [cw (by decide),cw (fz m),cw (fz n),eB (iR h).1]
theorem oP {a b n:Int} (h:jr a b n) (ha : -9223372036854775808<=a) (hb:b<=9223372036854775807):cj (Lib.itoa n)=some n:=At (Int.le_trans ha h.1) (Int.le_trans h.2 hb)
theorem DI:Reads ie where
 mN o s h:=by
  have:=fJ o false (ig s) (q8 (by decide))
  rw [show cR false++ig s=ig s from rfl,yA h] at this
  exact this
 word o n h:=by
  have:=fJ o false (ij n) (xu (by decide))
  rw [show cR false++ij n=ij n from rfl,yB] at this
  rw [this]
  show (if dx=dK then some (iO o (Lib.itoa n)) else if dx=dx then (cj (Lib.itoa n)).map (iP o) else none)=_
  rw [if_neg (by decide),if_pos rfl,oP h (by decide) (by decide)];rfl
 sym o y h h':=by
  have:=fJ o y.2.2.1 ([115,121,109,98,111,108,32]++(y.1++32 :: Lib.itoa y.2.1)) (q8 (by decide))
  rw [AF h] at this
  refine Eq.trans this ?_
  dsimp only [fy]
  rw [if_pos rfl,oP h' (by decide) (by decide)];rfl
 tie o t h:=by
  obtain ⟨at',k,ad,nm,b,_⟩:=t
  have ha:=oP h.a (by decide) (by decide)
  have hw:=oP h.w (by decide) (by decide)
  simp only at ha hw
  unfold oe
  rcases h.k with e | e | e
  ·have hb:=h.base e
   simp only at e hb
   obtain ⟨rfl,rfl⟩:=hb
   subst e
   rw [if_pos rfl]
   have:=fJ o false ([98,97,115,101,32]++(Lib.itoa at'++32 :: Lib.itoa ad)) (q8 (by decide))
   rw [yC] at this
   refine this.trans ?_
   dsimp only [fy]
   rw [if_neg (by decide),if_pos rfl];unfold pW;rw [ha,hw]
  ·have hn:=h.nm (by rw [show _=_ from e];decide)
   simp only at e hn
   subst e
   rw [if_neg (by simp),if_pos rfl]
   have:=fJ o b ([119,104,111,108,101,32]++(Lib.itoa at'++32 :: (Lib.itoa ad++32 :: nm))) (xu (by decide))
   rw [wC _ _ hn] at this
   refine this.trans ?_
   dsimp only [fy]
   rw [if_pos (.inl rfl),if_neg (by decide)];unfold pW;rw [ha,hw]
  ·have hn:=h.nm (by rw [show _=_ from e];decide)
   simp only at e hn
   subst e
   rw [if_neg (by simp),if_neg (by simp)]
   have:=fJ o b ([110,101,97,114,32]++(Lib.itoa at'++32 :: (Lib.itoa ad++32 :: nm))) (q8 (by decide))
   rw [yD _ _ hn] at this
   refine this.trans ?_
   dsimp only [fy]
   rw [if_pos (.inr rfl),if_pos rfl];unfold pW;rw [ha,hw]
end Go.Mrl

namespace Go.Mrl
open Go.Vg
theorem yE {o:D aB} (h:eU o):∀l∈js o,(10:UInt8)∉l:=by
 intro l hl
 unfold js at hl
 simp only [List.mem_append,List.mem_map] at hl
 have hw:∀b,(10:UInt8)∉cR b:=by intro b;cases b <;> decide
 rcases hl with ⟨s,hs,rfl⟩ | ⟨n,hn,rfl⟩ | ⟨y,hy,rfl⟩ | ⟨t,ht,rfl⟩
 ·have:=(iR (h.tO s hs)).2
  unfold ig;simp [this]
 ·have:=mP n
  unfold ij;simp [this]
 ·have h1:=(iR (h.syms y hy).1).2
  have h2:=mP y.2.1
  have h3:=hw y.2.2.1
  unfold pX;simp [h1,h2,h3]
 ·have h1:=mP t.1
  have h2:=mP t.2.2.1
  have h3:=hw t.2.2.2.2.1
  unfold oe
  split
  ·simp [h1,h2]
  ·rename_i hk
   have h4:=(iR ((h.yv t ht).nm hk)).2
   split <;> simp [h1,h2,h3,h4]
theorem BU {o:D aB} (h:eU o):js o≠[]:=by
 have h1:=h.w1
 unfold js
 intro e
 simp only [List.append_eq_nil_iff,List.map_eq_nil_iff] at e
 rw [e.2.1] at h1
 simp at h1
def yF (s:aE):Option (D aB):=run ie (bw aB) (parts 10 (Lib.trimSuffix s [10]))
theorem kY {o:D aB} (h:bt o=0):yF (cL o)=some o:=by
 have ok:=gb h
 unfold yF
 rw [wB,yu (BU ok) (yE ok),AE DI ok]
theorem AG {o p:D aB} (h:bt o=0) (h':bt p=0) (e:cL o=cL p):o=p:=by
 have a:=kY h
 rw [e,kY h'] at a
 exact (Option.some.inj a).symm
open Classical in
noncomputable def bG (s:aE):D aB × Int:=
 if s.length > 1200 then (bw aB,2)
 else if h:∃o:D aB,bt o=0/\cL o=s then (Classical.choose h,0) else (bw aB,4)
theorem sQ {s:aE} (h:s.length > 1200):bG s=(bw aB,2):=by unfold bG;rw [if_pos h]
theorem rL {s:aE} {o:D aB} (h:¬ s.length > 1200) (hf:bt o=0) (ht:cL o=s):bG s=(o,0):=by
 have hx:∃o:D aB,bt o=0/\cL o=s:=⟨o,hf,ht⟩
 have hc:=Classical.choose_spec hx
 unfold bG
 rw [if_neg h,dif_pos hx,AG hc.1 hf (hc.2.trans ht.symm)]
theorem pZ {s:aE} (h:¬ s.length > 1200) (hn:∀o:D aB,bt o=0->cL o≠s):bG s=(bw aB,4):=by
 unfold bG
 rw [if_neg h,dif_neg fun ⟨o,h1,h2⟩=>hn o h1 h2]
theorem yG {s:aE} (h:¬ s.length > 1200) (hr:yF s=none):bG s=(bw aB,4):=
 pZ h fun o h1 h2=>by rw [<-h2,kY h1] at hr;cases hr
theorem q9 {s:aE} {o:D aB} (h:¬ s.length > 1200) (hr:yF s=some o) (hb:bt o=0->cL o≠s):bG s=(bw aB,4):=
 pZ h fun p h1 h2=>by
  have:p=o:=by rw [<-h2,kY h1] at hr;exact Option.some.inj hr
  rw [this] at h1 h2
  exact hb h1 h2
def cq (o:D aB) (b:Bool) (s:aE):D aB × Bool:=
 let w:=parts 32 (Lib.trimPrefix s bC)
 if nth .str w 0=dK/\w.length=2 then (iO o (nth .str w 1),b)
 else if nth .str w 0=dx/\w.length=2 then (iP o (bP (nth .str w 1)).1,b || (cj (nth .str w 1)).isNone)
 else if nth .str w 0=cW/\w.length=3 then (lX o (nth .str w 1,(bP (nth .str w 2)).1,Lib.hasPrefix s bC,()),b || (cj (nth .str w 2)).isNone)
 else if nth .str w 0=fg/\w.length=3 then (ic o ((bP (nth .str w 1)).1,1,(bP (nth .str w 2)).1,[],false,()),(b || (cj (nth .str w 1)).isNone) || (cj (nth .str w 2)).isNone)
 else if (nth .str w 0=ew\/nth .str w 0=ep)/\w.length=4 then
  (ic o ((bP (nth .str w 1)).1,if nth .str w 0=ep then 3 else 2,(bP (nth .str w 2)).1,nth .str w 3,Lib.hasPrefix s bC,()),(b || (cj (nth .str w 1)).isNone) || (cj (nth .str w 2)).isNone)
 else (o,true)
theorem gO {s:aE} {n:Int} (h:cj s=some n):(bP s).1=n:=by
 unfold cj at h
 unfold bP
 cases ha:Lib.atoiAll s with
 | ok v=>rw [ha] at h;simp only at h ⊢;split at h <;> simp_all
 | range=>rw [ha] at h;cases h
 | _=>rw [ha] at h;cases h
theorem yH (o:D aB) (b:Bool) (s:aE):(∃p,ie o s=some p/\cq o b s=(p,b))\/(ie o s=none/\(cq o b s).2=true):=by
 unfold ie cq
 generalize hw:parts 32 (Lib.trimPrefix s bC)=w
 generalize Lib.hasPrefix s bC=k
 have hne:=pU 32 (Lib.trimPrefix s bC)
 rw [hw] at hne
 match w,hne with
 | [],hne=>exact absurd rfl hne
 | [a],_=>exact .inr ⟨rfl,by simp⟩
 | [a,x],_=>
  dsimp only [fy]
  simp only [show nth .str [a,x] 0=a from rfl,show nth .str [a,x] 1=x from rfl]
  by_cases h1:a=dK
  ·rw [if_pos h1,if_pos (show (a=dK)/\[a,x].length=2 from ⟨h1,rfl⟩)];exact .inl ⟨_,rfl,rfl⟩
  ·rw [if_neg h1,if_neg (show ¬ ((a=dK)/\[a,x].length=2) from fun e=>h1 e.1)]
   by_cases h2:a=dx
   ·rw [if_pos h2,if_pos (show (a=dx)/\[a,x].length=2 from ⟨h2,rfl⟩)]
    cases hn:cj x with
    | none=>exact .inr ⟨rfl,by simp⟩
    | some n=>exact .inl ⟨_,rfl,by rw [gO hn];simp⟩
   ·rw [if_neg h2,if_neg (show ¬ ((a=dx)/\[a,x].length=2) from fun e=>h2 e.1),if_neg (show ¬ ((a=cW)/\[a,x].length=3) from fun e=>absurd e.2 (by simp)),if_neg (show ¬ ((a=fg)/\[a,x].length=3) from fun e=>absurd e.2 (by simp)),if_neg (show ¬ ((a=ew\/a=ep)/\[a,x].length=4) from fun e=>absurd e.2 (by simp))];exact .inr ⟨rfl,rfl⟩
 | [a,x,y],_=>
  dsimp only [fy]
  simp only [show nth .str [a,x,y] 0=a from rfl,show nth .str [a,x,y] 1=x from rfl,show nth .str [a,x,y] 2=y from rfl]
  rw [if_neg (show ¬ ((a=dK)/\[a,x,y].length=2) from fun e=>absurd e.2 (by simp)),if_neg (show ¬ ((a=dx)/\[a,x,y].length=2) from fun e=>absurd e.2 (by simp))]
  by_cases h1:a=cW
  ·rw [if_pos h1,if_pos (show (a=cW)/\[a,x,y].length=3 from ⟨h1,rfl⟩)]
   cases hn:cj y with
   | none=>exact .inr ⟨rfl,by simp⟩
   | some n=>exact .inl ⟨_,rfl,by rw [gO hn];simp⟩
  ·rw [if_neg h1,if_neg (show ¬ ((a=cW)/\[a,x,y].length=3) from fun e=>h1 e.1)]
   by_cases h2:a=fg
   ·rw [if_pos h2,if_pos (show (a=fg)/\[a,x,y].length=3 from ⟨h2,rfl⟩)]
    unfold pW
    cases hm:cj x with
    | none=>exact .inr ⟨rfl,by simp⟩
    | some m=>
     cases hn:cj y with
     | none=>exact .inr ⟨rfl,by simp⟩
     | some n=>exact .inl ⟨_,rfl,by rw [gO hn,gO hm];simp⟩
   ·rw [if_neg h2,if_neg (show ¬ ((a=fg)/\[a,x,y].length=3) from fun e=>h2 e.1),if_neg (show ¬ ((a=ew\/a=ep)/\[a,x,y].length=4) from fun e=>absurd e.2 (by simp))];exact .inr ⟨rfl,rfl⟩
 | [a,x,y,z],_=>
  dsimp only [fy]
  simp only [show nth .str [a,x,y,z] 0=a from rfl,show nth .str [a,x,y,z] 1=x from rfl,show nth .str [a,x,y,z] 2=y from rfl,show nth .str [a,x,y,z] 3=z from rfl]
  rw [if_neg (show ¬ ((a=dK)/\[a,x,y,z].length=2) from fun e=>absurd e.2 (by simp)),if_neg (show ¬ ((a=dx)/\[a,x,y,z].length=2) from fun e=>absurd e.2 (by simp)),if_neg (show ¬ ((a=cW)/\[a,x,y,z].length=3) from fun e=>absurd e.2 (by simp)),if_neg (show ¬ ((a=fg)/\[a,x,y,z].length=3) from fun e=>absurd e.2 (by simp))]
  by_cases h1:a=ew\/a=ep
  ·rw [if_pos h1,if_pos (show (a=ew\/a=ep)/\[a,x,y,z].length=4 from ⟨h1,rfl⟩)]
   unfold pW
   cases hm:cj x with
   | none=>exact .inr ⟨rfl,by simp⟩
   | some m=>
    cases hn:cj y with
    | none=>exact .inr ⟨rfl,by simp⟩
    | some n=>exact .inl ⟨_,rfl,by rw [gO hn,gO hm];simp⟩
  ·rw [if_neg h1,if_neg (show ¬ ((a=ew\/a=ep)/\[a,x,y,z].length=4) from fun e=>h1 e.1)];exact .inr ⟨rfl,rfl⟩
 | a :: x :: y :: z :: u :: r,_=>exact .inr ⟨rfl,by simp⟩
theorem AH (o:D aB) (s:aE):(cq o true s).2=true:=by
 unfold cq;simp only [Bool.true_or]
 split
 ·rfl
 ·split
  ·rfl
  ·split
   ·rfl
   ·split
    ·rfl
    ·split <;> rfl
theorem AI (o:D aB) (b:Bool) (s:aE) :
  (cq o b s).1.1.length<=o.1.length + 1/\(cq o b s).1.2.1.length<=o.2.1.length + 1/\(cq o b s).1.2.2.1.length<=o.2.2.1.length + 1/\(cq o b s).1.2.2.2.1.length<=o.2.2.2.1.length + 1:=by
 have e:∀{α:Type} (l:List α) (x:α),(l++[x]).length<=l.length + 1:=fun l x=>by simp
 have e0:∀n:Nat,n<=n + 1:=fun n=>Nat.le_succ n
 unfold cq
 simp only
 split
 ·exact ⟨e _ _,e0 _,e0 _,e0 _⟩
 ·split
  ·exact ⟨e0 _,e _ _,e0 _,e0 _⟩
  ·split
   ·exact ⟨e0 _,e0 _,e _ _,e0 _⟩
   ·split
    ·exact ⟨e0 _,e0 _,e0 _,e _ _⟩
    ·split
     ·exact ⟨e0 _,e0 _,e0 _,e _ _⟩
     ·exact ⟨e0 _,e0 _,e0 _,e0 _⟩
structure ey (L:List aE) (i:Nat) (o:D aB) (b:Bool):Prop where
 le:i<=L.length
 st:(run ie (bw aB) (L.take i)=some o/\b=false)\/(run ie (bw aB) (L.take i)=none/\b=true)
 l1:o.1.length<=i
 l2:o.2.1.length<=i
 l3:o.2.2.1.length<=i
 l4:o.2.2.2.1.length<=i
theorem ey.zero (L:List aE):ey L 0 (bw aB) false:=⟨Nat.zero_le _, .inl ⟨rfl,rfl⟩,Nat.le_refl _,Nat.le_refl _,Nat.le_refl _,Nat.le_refl _⟩
theorem ey.next {L:List aE} {i:Nat} {o:D aB} {b:Bool} (h:ey L i o b) (hi:i < L.length):ey L (i + 1) (cq o b (nth .str L i)).1 (cq o b (nth .str L i)).2:=by
 obtain ⟨a1,a2,a3,a4⟩:=AI o b (nth .str L i)
 refine ⟨hi,?_,by have:=h.l1;omega,by have:=h.l2;omega,by have:=h.l3;omega,by have:=h.l4;omega⟩
 rw [eP (t:=.str) hi,vm]
 rcases h.st with ⟨hr,hb⟩ | ⟨hr,hb⟩
 ·rw [hr,Option.bind_some]
  rcases yH o b (nth .str L i) with ⟨p,h1,h2⟩ | ⟨h1,h2⟩
  ·rw [h2];exact .inl ⟨h1,hb⟩
  ·exact .inr ⟨h1,h2⟩
 ·rw [hr,hb];exact .inr ⟨rfl,AH o _⟩
end Go.Mrl

namespace Go.Mrl
open Go.Vg
abbrev Cs:=Unit × List (List UInt8) × List Int × List (D aF) × List (D aN) × (Bool × Unit) × Unit
def BV (x:Cs):D aB:=(x.2.1,x.2.2.1,x.2.2.2.1,x.2.2.2.2.1,())
def AJ (p:D aB × Bool):Cs:=((),p.1.1,p.1.2.1,p.1.2.2.1,p.1.2.2.2.1,(p.2,()),())
theorem vq (s p:aE):(Lib.trimPrefix s p).length<=s.length:=by unfold Lib.trimPrefix;split <;> simp
theorem xv {s:aE} {w:List aE} (hw:w=parts 32 (Lib.trimPrefix s bC)) (i:Nat):(nth .str w i).length<=s.length:=by
 by_cases h:i < w.length
 ·have h1:=gM (t:=.str) h
  rw [hw] at h1
  have:=iJ _ _ _ h1
  rw [<-hw] at this
  exact Nat.le_trans this (vq _ _)
 ·unfold nth;rw [List.getD_eq_getElem?_getD,List.getElem?_eq_none (by omega)];exact Nat.zero_le _
theorem BW {s:aE} {w:List aE} (hw:w=parts 32 (Lib.trimPrefix s bC)):0 < w.length:=by rw [hw];exact List.length_pos_iff.2 (pU _ _)
theorem eQ {c:Bool} {P:Prop} (q:c=true ↔ P) (h:c=false):¬ P:=fun p=>by rw [q.2 p] at h;cases h
section
variable {o:D aB} {b:Bool} {s:aE} {w:List aE} (hw:w=parts 32 (Lib.trimPrefix s bC))
include hw
theorem yI (h:nth .str w 0=dK/\w.length=2):cq o b s=(iO o (nth .str w 1),b):=by
 unfold cq;simp only;rw [<-hw,if_pos h]
theorem yJ (h0:¬ (nth .str w 0=dK/\w.length=2)) (h:nth .str w 0=dx/\w.length=2):cq o b s=(iP o (bP (nth .str w 1)).1,b || (cj (nth .str w 1)).isNone):=by
 unfold cq;simp only;rw [<-hw,if_neg h0,if_pos h]
theorem AK (h0:¬ (nth .str w 0=dK/\w.length=2)) (h1:¬ (nth .str w 0=dx/\w.length=2)) (h:nth .str w 0=cW/\w.length=3) :
  cq o b s=(lX o (nth .str w 1,(bP (nth .str w 2)).1,Lib.hasPrefix s bC,()),b || (cj (nth .str w 2)).isNone):=by
 unfold cq;simp only;rw [<-hw,if_neg h0,if_neg h1,if_pos h]
theorem yK (h0:¬ (nth .str w 0=dK/\w.length=2)) (h1:¬ (nth .str w 0=dx/\w.length=2)) (h2:¬ (nth .str w 0=cW/\w.length=3)) (h:nth .str w 0=fg/\w.length=3) :
  cq o b s=(ic o ((bP (nth .str w 1)).1,1,(bP (nth .str w 2)).1,[],false,()),(b || (cj (nth .str w 1)).isNone) || (cj (nth .str w 2)).isNone):=by
 unfold cq;simp only;rw [<-hw,if_neg h0,if_neg h1,if_neg h2,if_pos h]
theorem sR (h0:¬ (nth .str w 0=dK/\w.length=2)) (h1:¬ (nth .str w 0=dx/\w.length=2)) (h2:¬ (nth .str w 0=cW/\w.length=3)) (h3:¬ (nth .str w 0=fg/\w.length=3))
  (h:(nth .str w 0=ew\/nth .str w 0=ep)/\w.length=4) {k:Int} (hk:k=if nth .str w 0=ep then 3 else 2) :
  cq o b s=(ic o ((bP (nth .str w 1)).1,k,(bP (nth .str w 2)).1,nth .str w 3,Lib.hasPrefix s bC,()),(b || (cj (nth .str w 1)).isNone) || (cj (nth .str w 2)).isNone):=by
 unfold cq;simp only;rw [<-hw,if_neg h0,if_neg h1,if_neg h2,if_neg h3,if_pos h,hk]
theorem yL (h0:¬ (nth .str w 0=dK/\w.length=2)) (h1:¬ (nth .str w 0=dx/\w.length=2)) (h2:¬ (nth .str w 0=cW/\w.length=3)) (h3:¬ (nth .str w 0=fg/\w.length=3))
  (h:¬ ((nth .str w 0=ew\/nth .str w 0=ep)/\w.length=4)):cq o b s=(o,true):=by
 unfold cq;simp only;rw [<-hw,if_neg h0,if_neg h1,if_neg h2,if_neg h3,if_neg h]
end
end Go.Mrl

namespace Go.Mrl
open Go.Vg
end Go.Mrl

namespace Go.Mrl
open Go.Vg
noncomputable def fA (s:aE):D aB × bp:=((bG s).1,aW (bG s).2)
theorem yM {s:aE} (h:s.length > 1200):(bw aB,bp.no 2)=fA s:=by unfold fA;rw [sQ h];rfl
theorem ey.run {L:List aE} {i:Nat} {o:D aB} {b:Bool} (h:ey L i o b) (hi:¬ i < L.length):(run ie (bw aB) L=some o/\b=false)\/(run ie (bw aB) L=none/\b=true):=by
 have:=h.st
 rwa [List.take_of_length_le (by omega)] at this
theorem og {s:aE} {i:Nat} {o:D aB} {b:Bool} (h:ey (parts 10 (Lib.trimSuffix s [10])) i o b) (hi:¬ i < (parts 10 (Lib.trimSuffix s [10])).length) (hl:¬ s.length > 1200)
  (hb:b=true\/(dJ o).2.isNil=false\/¬ (dJ o).1=s):(bw aB,bp.no 4)=fA s:=by
 have:bG s=(bw aB,4):=by
  rcases h.run hi with ⟨hr,h0⟩ | ⟨hr,h0⟩
  ·rcases hb with hb | hb | hb
   ·rw [hb] at h0;cases h0
   ·refine q9 hl hr fun hf ht => ?_
    rw [mO hf rfl (by show (cL o).length<=1200;rw [ht];omega)] at hb
    cases hb
   ·refine q9 hl hr fun hf ht=>hb ?_
    rw [mO hf rfl (by show (cL o).length<=1200;rw [ht];omega)]
    exact ht
  ·exact yG hl hr
 unfold fA;rw [this];rfl
theorem BX {s:aE} {o:D aB} (hl:¬ s.length > 1200)
  (hn:(dJ o).2.isNil=true) (ht:(dJ o).1=s):(o,bp.nil)=fA s:=by
 have hf:bt o=0:=by
  apply Classical.byContradiction;intro hf
  rw [sN hf] at hn
  exact hf (aR.1 hn)
 have hs:cL o=s:=by
  by_cases h:(cL o).length > 1200
  ·rw [q7 hf rfl h] at hn;cases hn
  ·rw [mO hf rfl (by show (cL o).length<=1200;omega)] at ht;exact ht
 unfold fA;rw [rL hl hf hs];rfl
theorem CV (s p:aE):(Lib.trimSuffix s p).length<=s.length:=by unfold Lib.trimSuffix;split <;> simp
theorem AL (s:aE) (h:s.length<=1200):(parts 10 (Lib.trimSuffix s [10])).length<=1201:=by
 have h1:=n7 10 (Lib.trimSuffix s [10])
 have h2:(Lib.trimSuffix s [10]).length<=s.length:=by unfold Lib.trimSuffix;split <;> simp
 omega
theorem yN {s:aE} (h:s.length<=1200) (i:Nat):(nth .str (parts 10 (Lib.trimSuffix s [10])) i).length<=1200:=by
 by_cases hi:i < (parts 10 (Lib.trimSuffix s [10])).length
 ·have:=iJ _ _ _ (gM (t:=.str) hi)
  have h2:(Lib.trimSuffix s [10]).length<=s.length:=by unfold Lib.trimSuffix;split <;> simp
  omega
 ·unfold nth;rw [List.getD_eq_getElem?_getD,List.getElem?_eq_none (by omega)];exact Nat.zero_le _
end Go.Mrl

namespace Go.Mrl
open Go.Vg
abbrev Rd:=aE->aE × Int × Int
structure gF (rd:Rd):Prop where
 code:∀s,(rd s).2.2=0\/(rd s).2.2=5
 Eb:∃K:List aE,K.length<=6/\∀s,(rd s).2.2=0->s∈K
def ck (ns l:List aE):List aE:=l.foldl (fun ns s=>if ns.any (· == s)=true then ns else ns++[s]) ns
noncomputable def er (rd:Rd) (s:aE):D aB:=(bG (rd s).1).1
noncomputable def b5 (rd:Rd) (s:aE):Int:=if (rd s).2.2=0 then (bG (rd s).1).2 else (rd s).2.2
noncomputable def ik (rd:Rd):Nat->Nat->List aE->List (D aB)->List aE × List (D aB) × Int
 | 0,_,ns,os=>(ns,os,0)
 | k + 1,i,ns,os=>
  if i < ns.length then
   if b5 rd (nth .str ns i)=0 then ik rd k (i + 1) (ck ns (er rd (nth .str ns i)).1) (os++[er rd (nth .str ns i)])
   else ([],[],b5 rd (nth .str ns i))
  else (ns,os,0)
noncomputable def bD (rd:Rd) (root:aE):List aE × List (D aB) × Int:=ik rd 7 0 [root] []
theorem ra (s:aE):((bG s).2=0/\bt (bG s).1=0/\cL (bG s).1=s)\/bG s=(bw aB,2)\/bG s=(bw aB,4):=by
 by_cases h:s.length > 1200
 ·exact .inr (.inl (sQ h))
 ·by_cases h2:∃o:D aB,bt o=0/\cL o=s
  ·obtain ⟨o,h3,h4⟩:=h2
   rw [rL h h3 h4];exact .inl ⟨rfl,h3,h4⟩
  ·exact .inr (.inr (pZ h fun o h3 h4=>h2 ⟨o,h3,h4⟩))
theorem wD (s:aE):0<=(bG s).2:=by
 rcases ra s with ⟨h,_⟩ | h | h <;> rw [h] <;> decide
theorem yO {s:aE} (h:(bG s).2=0):bt (bG s).1=0:=by
 rcases ra s with ⟨_,h,_⟩ | h' | h'
 ·exact h
 ·rw [h'] at h;cases h
 ·rw [h'] at h;cases h
theorem rM {rd:Rd} (h:gF rd) (s:aE):0<=b5 rd s:=by
 unfold b5
 split
 ·exact wD _
 ·rcases h.code s with e | e <;> rw [e] <;> decide
theorem kr {rd:Rd} (h:gF rd) {s:aE} (e:b5 rd s=0):(rd s).2.2=0/\(bG (rd s).1).2=0:=by
 unfold b5 at e
 rcases h.code s with c | c
 ·rw [if_pos c] at e;exact ⟨c,e⟩
 ·rw [if_neg (by rw [c];decide),c] at e;cases e
theorem oh {rd:Rd} {s:aE} (e:¬ (rd s).2.2=0):b5 rd s=(rd s).2.2:=by unfold b5;rw [if_neg e]
theorem ly {rd:Rd} {s:aE} (e:(rd s).2.2=0):b5 rd s=(bG (rd s).1).2:=by unfold b5;rw [if_pos e]
theorem vr (ns:List aE):ck ns []=ns:=rfl
theorem om (ns l:List aE) (s:aE):ck ns (s :: l)=ck (if ns.any (· == s)=true then ns else ns++[s]) l:=rfl
theorem AM (ns l:List aE) (s:aE):ck ns (l++[s])=if (ck ns l).any (· == s)=true then ck ns l else ck ns l++[s]:=by
 unfold ck;rw [List.foldl_append];rfl
theorem oQ {ns:List aE} {s:aE}:ns.any (· == s)=true ↔ s∈ns:=by
 rw [List.any_eq_true]
 constructor
 ·rintro ⟨x,hx,e⟩;rw [<-(by simpa using e:x=s)];exact hx
 ·intro h;exact ⟨s,h,by simp⟩
theorem iS:∀(l ns:List aE),∃r,ck ns l=ns++r/\r.length<=l.length/\∀s∈r,s∈l
 | [],ns=>⟨[],by simp [vr],by simp,by simp⟩
 | x :: l,ns=>by
  rw [om]
  split
  ·obtain ⟨r,h1,h2,h3⟩:=iS l ns
   exact ⟨r,h1,by simp;omega,fun s hs=>by simp [h3 s hs]⟩
  ·obtain ⟨r,h1,h2,h3⟩:=iS l (ns++[x])
   refine ⟨x :: r,by rw [h1];simp,by simp;omega,fun s hs => ?_⟩
   rcases List.mem_cons.1 hs with rfl | hs
   ·simp
   ·simp [h3 s hs]
theorem mQ:∀(l ns:List aE),ns.Nodup->(ck ns l).Nodup
 | [],ns,h=>h
 | x :: l,ns,h=>by
  rw [om]
  split
  ·exact mQ l ns h
  ·rename_i hx
   refine mQ l _ ?_
   rw [List.nodup_append]
   refine ⟨h,by simp,fun a ha b hb e=>hx (oQ.2 ?_)⟩
   simp at hb;subst hb;exact e▸ha
theorem vt:∀(l ns:List aE),∀s∈l,s∈ck ns l
 | [],_,s,h=>by simp at h
 | x :: l,ns,s,h=>by
  rw [om]
  rcases List.mem_cons.1 h with rfl | h
  ·split
   ·rename_i hx
    obtain ⟨r,h1,_⟩:=iS l ns
    rw [h1];exact List.mem_append_left _ (oQ.1 hx)
   ·obtain ⟨r,h1,_⟩:=iS l (ns++[s])
    rw [h1];simp
  ·exact vt l _ s h
theorem sU {ns l:List aE} {i:Nat} (h:i < l.length):ck ns (l.take (i + 1))=if (ck ns (l.take i)).any (· == nth .str l i)=true then ck ns (l.take i) else ck ns (l.take i)++[nth .str l i]:=by
 rw [eP (t:=.str) h,AM]
theorem sV {t:Ty} {a b:List (D t)} {i:Nat} (h:i < a.length):nth t (a++b) i=nth t a i:=by rw [mI,if_pos h]
structure ei (rd:Rd) (root:aE) (i:Nat) (ns:List aE) (os:List (D aB)):Prop where
 eq:ik rd (7 - i) i ns os=bD rd root
 le:i<=6
 lo:i<=ns.length
 pos:0 < ns.length
 len:os.length=i
 hi:ns.length<=1 + 4 * i
 head:nth .str ns 0=root
 nd:ns.Nodup
 AN:∀j,j < i->b5 rd (nth .str ns j)=0/\nth aB os j=er rd (nth .str ns j)
 want:∀j,j < ns.length->j≠0->∃k,k < i/\k < j/\nth .str ns j∈(nth aB os k).1
 mN:∀j,j < i->∀s∈(nth aB os j).1,s∈ns
theorem ei.zero (rd:Rd) (root:aE):ei rd root 0 [root] []:=
 ⟨rfl,by omega,by simp,by simp,rfl,by simp,rfl,by simp,fun j h=>by omega,fun j h h'=>by simp at h;omega,fun j h=>by omega⟩
theorem ei.room {rd:Rd} {root:aE} {i:Nat} {ns:List aE} {os:List (D aB)} (ok:gF rd) (h:ei rd root i ns os) (hi:i < ns.length) (hf:b5 rd (nth .str ns i)=0):i + 1<=6:=by
 obtain ⟨K,hK,hm⟩:=ok.Eb
 have hsub:∀y∈ns.take (i + 1),y∈K:=by
  intro y hy
  obtain ⟨j,hj,rfl⟩:=CT (t:=.str) hy
  rw [List.length_take] at hj
  rw [uW (t:=.str) (by omega)]
  refine hm _ (kr ok ?_).1
  rcases Nat.lt_or_ge j i with hl | hl
  ·exact (h.AN j hl).1
  ·rw [show j=i by omega];exact hf
 have:=sx (h.nd.sublist (List.take_sublist (i + 1) ns)) hsub
 rw [List.length_take] at this
 omega
theorem ei.fuel {rd:Rd} {root:aE} {i:Nat} {ns:List aE} {os:List (D aB)} (h:ei rd root i ns os):ik rd (6 - i + 1) i ns os=bD rd root:=by
 rw [<-h.eq];congr 1;have:=h.le;omega
theorem ei.bad {rd:Rd} {root:aE} {i:Nat} {ns:List aE} {os:List (D aB)} (h:ei rd root i ns os) (hi:i < ns.length) (hf:¬ b5 rd (nth .str ns i)=0) :
  bD rd root=([],[],b5 rd (nth .str ns i)):=by
 rw [<-h.fuel,ik,if_pos hi,if_neg hf]
theorem ei.done {rd:Rd} {root:aE} {i:Nat} {ns:List aE} {os:List (D aB)} (h:ei rd root i ns os) (hi:¬ i < ns.length):bD rd root=(ns,os,0):=by
 rw [<-h.fuel,ik,if_neg hi]
theorem vu {rd:Rd} (ok:gF rd) {s:aE} (hf:b5 rd s=0):eU (er rd s):=gb (yO (kr ok hf).2)
theorem ei.next {rd:Rd} {root:aE} {i:Nat} {ns:List aE} {os:List (D aB)} (ok:gF rd) (h:ei rd root i ns os) (hi:i < ns.length) (hf:b5 rd (nth .str ns i)=0) :
  ei rd root (i + 1) (ck ns (er rd (nth .str ns i)).1) (os++[er rd (nth .str ns i)]):=by
 have hr:=h.room ok hi hf
 have ho:=vu ok hf
 obtain ⟨r,h1,h2,h3⟩:=iS (er rd (nth .str ns i)).1 ns
 have hn4:=ho.n4
 have hlen:=h.len
 have hhi:=h.hi
 have hpos:=h.pos
 have hos:nth aB (os++[er rd (nth .str ns i)]) i=er rd (nth .str ns i):=by rw [mI,if_neg (by omega),h.len,Nat.sub_self];rfl
 have hns:∀j,j < ns.length->nth .str (ck ns (er rd (nth .str ns i)).1) j=nth .str ns j:=fun j hj=>by rw [h1,sV (t:=.str) hj]
 have hoj:∀j,j < i->nth aB (os++[er rd (nth .str ns i)]) j=nth aB os j:=fun j hj=>sV (t:=aB) (by omega)
 refine ⟨?_,hr,by rw [h1,List.length_append];omega,by rw [h1,List.length_append];omega,by rw [List.length_append,h.len];rfl,by rw [h1,List.length_append];omega,
  by rw [hns 0 hpos];exact h.head,mQ _ _ h.nd,fun j hj => ?_,fun j hj h0 => ?_,fun j hj s hs => ?_⟩
 ·rw [<-h.fuel,ik,if_pos hi,if_pos hf];congr 1;omega
 ·rcases Nat.lt_or_ge j i with hl | hl
  ·rw [hns j (by omega),hoj j hl];exact h.AN j hl
  ·rw [show j=i by omega,hns i hi,hos];exact ⟨hf,rfl⟩
 ·rcases Nat.lt_or_ge j ns.length with hl | hl
  ·obtain ⟨k,k1,k2,k3⟩:=h.want j hl h0
   exact ⟨k,by omega,k2,by rw [hns j hl,hoj k k1];exact k3⟩
  ·refine ⟨i,by omega,by omega,?_⟩
   rw [hos,h1,mI,if_neg (by omega)]
   refine h3 _ (gM (t:=.str) ?_)
   rw [h1,List.length_append] at hj;omega
 ·rcases Nat.lt_or_ge j i with hl | hl
  ·rw [hoj j hl] at hs
   rw [h1];exact List.mem_append_left _ (h.mN j hl s hs)
  ·rw [show j=i by omega,hos] at hs
   exact vt _ _ s hs
structure Scope (rd:Rd) (root:aE) (ns:List aE) (os:List (D aB)):Prop where
 le:ns.length<=6
 pos:0 < ns.length
 len:os.length=ns.length
 head:nth .str ns 0=root
 nd:ns.Nodup
 AN:∀j,j < ns.length->b5 rd (nth .str ns j)=0/\nth aB os j=er rd (nth .str ns j)
 want:∀j,j < ns.length->j≠0->∃k,k < j/\nth .str ns j∈(nth aB os k).1
 mN:∀j,j < ns.length->∀s∈(nth aB os j).1,s∈ns
theorem rb {rd:Rd} {root:aE} (ok:gF rd):∀(m i:Nat) (ns:List aE) (os:List (D aB)),m=7 - i->ei rd root i ns os->
  (∃f,0 < f/\bD rd root=([],[],f))\/(∃ns os,bD rd root=(ns,os,0)/\Scope rd root ns os)
 | 0,i,ns,os,hm,h=>by have:=h.le;omega
 | m + 1,i,ns,os,hm,h=>by
  by_cases hi:i < ns.length
  ·by_cases hf:b5 rd (nth .str ns i)=0
   ·exact rb ok m (i + 1) _ _ (by omega) (h.next ok hi hf)
   ·have:=rM ok (nth .str ns i)
    exact .inl ⟨_,by omega,h.bad hi hf⟩
  ·have h1:=h.lo
   have h2:=h.le
   have e:i=ns.length:=by omega
   subst e
   exact .inr ⟨ns,os,h.done hi,h2,h.pos,h.len,h.head,h.nd,h.AN,fun j hj h0=>let ⟨k,_,k2,k3⟩:=h.want j hj h0;⟨k,k2,k3⟩,h.mN⟩
theorem ph {rd:Rd} (ok:gF rd) (root:aE):(∃f,0 < f/\bD rd root=([],[],f))\/(∃ns os,bD rd root=(ns,os,0)/\Scope rd root ns os):=
 rb ok 7 0 _ _ rfl (ei.zero rd root)
theorem eh {rd:Rd} (ok:gF rd) {root:aE} (h:(bD rd root).2.2=0):Scope rd root (bD rd root).1 (bD rd root).2.1:=by
 rcases ph ok root with ⟨f,hf,e⟩ | ⟨ns,os,e,h'⟩
 ·rw [e] at h;simp only at h;omega
 ·rw [e];exact h'
theorem sW {rd:Rd} (ok:gF rd) {root:aE} (h:¬ (bD rd root).2.2=0):(bD rd root).1 = []/\(bD rd root).2.1 = []/\0 < (bD rd root).2.2:=by
 rcases ph ok root with ⟨f,hf,e⟩ | ⟨ns,os,e,h'⟩
 ·rw [e];exact ⟨rfl,rfl,hf⟩
 ·rw [e] at h;exact absurd rfl h
theorem jt {x:cn} (h:x.2.1.1.length<=6):gF (bI x):=by
 refine ⟨fun s => ?_,x.2.1.1.map kj,by rw [List.length_map];exact h,fun s hs => ?_⟩
 ·unfold bI;split
  ·exact .inl rfl
  ·exact .inr rfl
 ·by_cases c:bY b8 x.2.1.1 s=true
  ·obtain ⟨y,hy,e⟩:=iH.1 c
   rw [<-e];exact List.mem_map_of_mem hy
  ·rw [kU (by simpa using c)] at hs;cases hs
end Go.Mrl

namespace Go.Mrl
open Go.Vg
section
variable {rd:Rd} {root:aE} {i:Nat} {ns:List aE} {os:List (D aB)}
theorem ei.BY (ok:gF rd) (h:ei rd root i ns os) (hi:i < ns.length) (he:¬ (rd (nth .str ns i)).2.2=0) :
  bD rd root=([],[],(rd (nth .str ns i)).2.2):=by
 rw [h.bad hi (by rw [oh he];exact he),oh he]
theorem ei.CW (h:ei rd root i ns os) (hi:i < ns.length) (he:(rd (nth .str ns i)).2.2=0) (ho:¬ (bG (rd (nth .str ns i)).1).2=0) :
  bD rd root=([],[],(bG (rd (nth .str ns i)).1).2):=by
 rw [h.bad hi (by rw [ly he];exact ho),ly he]
theorem rN {s:aE} (he:(rd s).2.2=0) (ho:(bG (rd s).1).2=0):b5 rd s=0:=by rw [ly he];exact ho
theorem ei.D7 (h:ei rd root i ns os):os.length + 1<=1000000000:=by have:=h.len;have:=h.le;omega
theorem ei.DJ (h:ei rd root i ns os) (ok:gF rd) {s:aE} (hf:b5 rd s=0) (k:Nat):(ck ns (List.take k (er rd s).1)).length + 1<=1000000000:=by
 obtain ⟨r,h1,h2,_⟩:=iS (List.take k (er rd s).1) ns
 have:=(vu ok hf).n4
 have:=h.hi
 have:=h.le
 rw [h1,List.length_append]
 rw [List.length_take] at h2
 omega
theorem xw {l:List aE} {k:Nat} (h:k < l.length) (hn:(ck ns (l.take k)).any (fun x=>x == nth .str l k)=false):ck ns (l.take k)++[nth .str l k]=ck ns (l.take (k + 1)):=by
 rw [sU h,if_neg (by rw [hn];exact Bool.false_ne_true)]
theorem xx {l:List aE} {k:Nat} (h:k < l.length) (hn:(ck ns (l.take k)).any (fun x=>x == nth .str l k)=true):ck ns (l.take k)=ck ns (l.take (k + 1)):=by
 rw [sU h,if_pos hn]
theorem xy {l:List aE} {k:Nat} (h:¬ k < l.length):ck ns (l.take k)=ck ns l:=by rw [List.take_of_length_le (by omega)]
end
end Go.Mrl

namespace Go.Mrl
open Go.Vg
section
variable {o:D aB} {b:Bool} {w:List aE} {k:Nat}
end
theorem eT {k n:Nat} (h:(k:Int) < (n:Int)):(decide ((k:Int) < 3))=true ↔ ((k:Int) < (n:Int)/\(k:Int) < 3):=by
 rw [decide_eq_true_eq];omega
end Go.Mrl

namespace Go.Mrl
open Go.Vg
end Go.Mrl
namespace Go.Mrl
open Go.Vg
end Go.Mrl

namespace Go.Mrl
open Go.Vg
end Go.Mrl

namespace Go.Mrl
open Go.Vg
end Go.Mrl

namespace Go.Mrl
open Go.Vg
def Ct (e:D dX):Prop:=e.2.1.length < 1\/e.2.1.length > 6\/e.2.2.1.length > 36
instance (e:D dX):Decidable (Ct e):=by unfold Ct;infer_instance
end Go.Mrl

namespace Go.Mrl
open Go.Vg
open Classical in
noncomputable def dL (a b:D aB):Bool:=decide (a=b)
theorem re (a:D aB):dL a a=true:=by unfold dL;simp
theorem yP {a b:D aB} (h1:dw a.1 b.1=true) (h2:eN a.2.1 b.2.1=true) (l3:(a.2.2.1.length:Int)=b.2.2.1.length) (l4:(a.2.2.2.1.length:Int)=b.2.2.2.1.length)
  (h3:∀i,i < a.2.2.1.length->nth aF a.2.2.1 i=nth aF b.2.2.1 i) (h4:∀i,i < a.2.2.2.1.length->nth aN a.2.2.2.1 i=nth aN b.2.2.2.1 i):true=dL a b:=by
 obtain ⟨a1,a2,a3,a4,_⟩:=a
 obtain ⟨b1,b2,b3,b4,_⟩:=b
 have e1:a1=b1:=of_decide_eq_true h1
 have e2:a2=b2:=of_decide_eq_true h2
 have e3:a3=b3:=jc (t:=aF) (Int.ofNat_inj.1 l3) h3
 have e4:a4=b4:=jc (t:=aN) (Int.ofNat_inj.1 l4) h4
 rw [e1,e2,e3,e4];exact (re _).symm
theorem iT {a b:D aB} (h:¬ a=b):false=dL a b:=by unfold dL;simp [h]
theorem CX {a b:D aB} (h:dw a.1 b.1=false):false=dL a b:=iT fun e=>of_decide_eq_false h (by rw [e])
theorem CY {a b:D aB} (h:eN a.2.1 b.2.1=false):false=dL a b:=iT fun e=>of_decide_eq_false h (by rw [e])
theorem BZ {a b:D aB} (h:¬ (a.2.2.1.length:Int)=b.2.2.1.length):false=dL a b:=iT fun e=>h (by rw [e])
theorem B0 {a b:D aB} (h:¬ (a.2.2.2.1.length:Int)=b.2.2.2.1.length):false=dL a b:=iT fun e=>h (by rw [e])
theorem CZ {a b:D aB} {i:Nat} (h:¬ nth aF a.2.2.1 i=nth aF b.2.2.1 i):false=dL a b:=iT fun e=>h (by rw [e])
theorem C0 {a b:D aB} {i:Nat} (h:¬ nth aN a.2.2.2.1 i=nth aN b.2.2.2.1 i):false=dL a b:=iT fun e=>h (by rw [e])
end Go.Mrl

namespace Go.Vg
open Go
theorem wE {H:Type} {enc:TypeId × Value->H} {a:Assume} {C:Checked} {os:Os} {f:FuncId} {fn:Func} {s:ChangeSpec} {conds:List PathCond} {apart fresh handsOn again:Bool} {X:World->Array Value->Prop}
  (hX:∀(w w':World) (args:Array Value),w.heap=w'.heap->X w args->X w' args)
  (own:ownKnob C.prog.godebug=none) (started:os.Started) (noInit:C.prog.inits.idxOf? f=none) (hfn:C.prog.funcs[f]?=some fn)
  (witness:∃(w:World) (tape:Tape) (i:Input),w.os=os/\(w.forCall tape i).Shaped C.prog/\i.vars = []/\Input.okWide C.prog (w.forCall tape i) .any w.heap.size f i/\
   ((s.pre enc C.prog fn conds apart (w.forCall tape i).memory i.args/\X (w.forCall tape i).memory i.args)/\sizedMet enc C.prog fn (OpenSpec.ofChange s) apart (w.forCall tape i).memory i.args)/\a.holds C.prog (lone (Frame.enter C.prog f i.args .normal) [] (w.forCall tape i)))
  (contract:∀(W:World) (base:Nat) (args:Array Value) (ds gs:List (DataW H)) (before:List MemPlace),
   (∀(j:Nat) t v,fn.params[j]?=some t->args[j]?=some v->Value.okWide C.prog W .any base t v)->
   DataW.Whole enc C.prog fn.params.toList s.vars apart W args.toList ds gs before->
   X W args->W.ShapedOpen C.prog->
   Calls C.prog f args W fun e W'=>∃v,e = .returned v/\s.post enc C.prog fn apart fresh handsOn again W args v W') :
  ReturnsInHanded a C os f .any (fun w args=>(s.pre enc C.prog fn conds apart w args/\X w args)/\sizedMet enc C.prog fn (OpenSpec.ofChange s) apart w args) (s.post enc C.prog fn apart fresh handsOn again):=by
 refine returnsInHanded_of_calls own started noInit witness ?_
 intro w tape i _ hsh _ hok hpre hholds
 obtain ⟨_,_,_,fn',hfn',_,_,_,_,hval⟩:=hok
 have e:fn'=fn:=Option.some.inj (hfn'.symm.trans hfn)
 subst e
 obtain ⟨⟨⟨ds,gs,before,hw,hc⟩,hx⟩,hz⟩:=hpre
 have hw':=DataW.Whole.of_heap (w':=w.forCall tape i) (by rfl) hw
 refine (contract (w.forCall tape i) w.heap.size i.args ds gs before hval hw' (hX _ _ _ (by rfl) hx) hsh).mono fun e W' ⟨v,he,hp⟩ => ?_
 subst he
 exact ChangeSpec.post_blind hp
theorem vw {P:Program} {w:World} {g:Nat} {t:TypeId} {zero:Array Value} (h:w.ShapedOpen P) (hg:g < P.globals.size)
  (h0:((begin P (fun _ _=>0) default).world.heap[g]?).bind Obj.row?=some (zero,t)) (hz:zero.size=1)
  (hb:P.buildable t=true) (hc:P.cellTypes P.depth t=some [t]) (hu:P.underlying t=some (.int .i64)):∃m,w.cell? ⟨g,0,none⟩=some (.int .i64 m):=by
 obtain ⟨cs,hh,hs,hr⟩:=h.1 g zero t hg h0
 obtain ⟨ts,hts,_,hall⟩:=hr hb
 rw [hc] at hts
 cases hts
 have h1:0 < cs.size:=by omega
 obtain ⟨u,hu',hok⟩:=hall 0 cs[0] (by simp [h1])
 have:u=t:=by simpa using hu'.symm
 subst this
 have hcell:w.cell? ⟨g,0,none⟩=some cs[0]:=by simp [World.cell?,hh,h1]
 rw [hcell]
 unfold Cell.ok at hok
 rw [hu] at hok
 cases hv:cs[0] <;> rw [hv] at hok <;> first | exact hok.elim | (obtain ⟨rfl,_⟩:=hok;exact ⟨_,rfl⟩) | simp at hok
def Cu:Option TypeDesc->Bool
 | some (.interface _)=>true
 | _=>false
theorem lY {P:Program} {W:World} {name nm:String} {d:DataW Unit} {g:Nat} {t:TypeId}
  (hg:P.globalNamed name=some g) (hty:(P.globals[g]?).map (·.type)=some t) (hi:Cu (P.underlying t)=true)
  (h:Lib.VarReads P W name (.iface nm d)):∃ev,W.cell? ⟨g,0,none⟩=some ev/\(ev = .nilIface\/∃te pe,ev = .iface te pe):=by
 obtain ⟨g',t',cs,fuel,p,hg',ht',hvar,hd⟩:=h
 obtain rfl:=Option.some.inj (hg.symm.trans hg')
 obtain rfl:=Option.some.inj (hty.symm.trans ht')
 have hc:=World.var?_cell hg hvar 0
 obtain ⟨ms,hu⟩:∃ms,P.underlying t=some (.interface ms):=by
  unfold Cu at hi
  split at hi
  ·rename_i ms hm;exact ⟨ms,hm⟩
  ·cases hi
 cases fuel with
 | zero=>simp [DataW.trod] at hd
 | succ n=>
  cases hl:cs.toList with
  | nil=>rw [hl] at hd;simp [DataW.trod,hu] at hd
  | cons v r=>
   have h0:cs[0]?=some v:=by rw [<-Array.getElem?_toList,hl];rfl
   rw [h0] at hc
   refine ⟨v,hc,?_⟩
   rw [hl] at hd
   cases v <;> first | exact .inl rfl | exact .inr ⟨_,_,rfl⟩ | (simp [DataW.trod,hu] at hd)
theorem vy {P:Program} {W:World} {name:String} {k:IntKind} {zs:List Int} {g:Nat} {t e:TypeId} {n:Nat}
  (hg:P.globalNamed name=some g) (hty:(P.globals[g]?).map (·.type)=some t) (ht:P.underlying t=some (.array n e)) (he:P.underlying e=some (.int k)) (hce:P.cellsOf e=1) (hct:P.cellsOf t=n)
  (h:Lib.VarReads P W name (Lib.tabData k zs)):Lib.TabIs P W name k zs:=by
 obtain ⟨g',t',cs,fuel,p,hg',ht',hvar,hd⟩:=h
 obtain rfl:=Option.some.inj (hg.symm.trans hg')
 obtain rfl:=Option.some.inj (hty.symm.trans ht')
 unfold Lib.TabIs
 rw [hvar,<-Lib.cells_of_tab ht he hce hct hd]
end Go.Vg

namespace Go.Mrl
open Go.Vg
def Ec (p:D Cp) (a:Int):Prop:=(p.2.1:Int)<=a/\a < (p.2.1:Int) + (p.2.2.1.length:Int)
instance (p:D Cp) (a:Int):Decidable (Ec p a):=inferInstanceAs (Decidable (_/\_))
theorem ju {f:Int} (h:(aW f).isNil=false):¬ f=0:=fun e=>by rw [aR.2 e] at h;cases h
end Go.Mrl

namespace Go.Mrl
open Go.Vg
end Go.Mrl

namespace Go.Mrl
open Go.Vg
theorem AO {rd:Rd} {a t:aE} {n:Int} {o:D aB} (h:rd a=(t,n,0)) (ho:bG t=(o,0)) (hn:o.1 = []):bD rd a=([a],[o],0):=by
 have fa:b5 rd a=0:=by unfold b5;rw [h];show (if (0:Int)=0 then (bG t).2 else 0)=0;rw [ho];rfl
 have oa:er rd a=o:=by unfold er;rw [h];show (bG t).1=o;rw [ho]
 have n0:nth .str [a] 0=a:=rfl
 unfold bD
 rw [ik,if_pos (by simp),n0,if_pos fa,oa,hn,vr,ik,if_neg (by simp)]
 rfl
end Go.Mrl

namespace Go.Mrl
open Go.Vg
theorem bq.ok {x:cn} (h:bq x):gF (bI x):=jt h.pre.1
end Go.Mrl

namespace Go.Mrl
open Go.Vg
end Go.Mrl

namespace Go.Mrl
open Go.Vg
structure aS (x:cn):Prop where
 st:bq x
 Cv:∀y∈x.2.1.1,aJ y.1=0/\y.2.1.1.length<=1200/\1<=y.2.1.2.1
theorem aS.new:aS kT:=⟨.new,fun y hy=>by simp [kT] at hy⟩
theorem vz {s:aE} {v:aE × Int × Unit} {c:Int}:∀{es:List FE} {y:FE},y∈ch b8 es s v c->(y.1=s/\y.2.1=v)\/y∈es
 | [],y,h=>by simp [ch] at h;subst h;exact .inl ⟨rfl,rfl⟩
 | z :: r,y,h=>by
  unfold ch at h
  split at h
  ·rcases List.mem_cons.1 h with rfl | h
   ·exact .inl ⟨rfl,rfl⟩
   ·exact .inr (by simp [h])
  ·rcases List.mem_cons.1 h with rfl | h
   ·exact .inr (by simp)
   ·rcases vz h with h | h
    ·exact .inl h
    ·exact .inr (by simp [h])
theorem vA {x:cn} {s t:aE} (h:(bz x s t).2=0):aJ s=0/\t.length<=1200/\¬ x.1.1=1000000:=by
 unfold bz at h
 split at h
 ·rename_i h1;exact absurd h h1
 ·rename_i h1
  split at h
  ·simp at h
  ·rename_i h2
   split at h
   ·simp at h
   ·rename_i h3
    exact ⟨by simpa using h1,by omega,fun e=>h3 (.inr e)⟩
theorem bq.pos {x:cn} (h:bq x):0<=x.1.1:=h.pre.2.1
theorem aS.write {x:cn} (h:aS x) (s t:aE):aS (bz x s t).1:=by
 refine ⟨(h.st.write s t).1,?_⟩
 rcases mZ x s t with ⟨e,_⟩ | ⟨e,e2⟩
 ·rw [e];exact h.Cv
 ·rw [e]
  intro y hy
  obtain ⟨k1,k2,_⟩:=vA e2
  rcases vz hy with ⟨h1,h2⟩ | hy
  ·rw [h1,h2];exact ⟨k1,k2,by have:=h.st.pos;show (1:Int)<=x.1.1 + 1;omega⟩
  ·exact h.Cv y hy
theorem aS.remove {x:cn} (h:aS x) (s:aE):aS (cB x s).1:=by
 refine ⟨(h.st.remove s).1,?_⟩
 cases c:bY b8 x.2.1.1 s with
 | false=>rw [je c];exact h.Cv
 | true=>rw [hZ c];exact fun y hy=>h.Cv y (iI.subset hy)
theorem aS.en {x:cn} (h:aS x) (a:D br):aS (en x a):=by
 unfold Mrl.en
 split
 ·exact h.write _ _
 ·split
  ·exact h.remove _
  ·exact h
theorem aS.done:∀(l:List (D br)) {x:cn},aS x->aS (bJ x l)
 | [],_,h=>h
 | a :: l,_,h=>aS.done l (h.en a)
theorem aS.ok {x:cn} (h:aS x):gF (bI x):=h.st.ok
end Go.Mrl

namespace Go.Mrl
open Go.Vg
end Go.Mrl

namespace Go.Mrl
open Go.Vg
end Go.Mrl

namespace Go.Mrl
open Go.Vg
end Go.Mrl

namespace Go.Mrl
open Go.Vg
end Go.Mrl

namespace Go.Mrl
open Go.Vg
abbrev DK:cn:=((0,()),([],0,()),())
end Go.Mrl

namespace Go.Mrl
open Go.Vg
abbrev rO:aE:=[119,111,114,100,32,49,10]
abbrev B1:D aB:=([],[1],[],[],())
theorem DU:bG rO=(B1,0):=by
 have i1:Lib.itoa 1 = [49]:=by rw [BQ (by decide) (by decide)];rfl
 refine rL (by decide) (by decide) ?_
 simp only [cL,df,fO,fN,ib,mL,List.length_singleton,List.length_nil,List.take_succ_cons,List.take_zero,List.flatMap_cons,List.flatMap_nil,i1]
 decide
theorem C1:bI (bz DK [97] rO).1 [97]=(rO,1,0):=by decide
def D0:cn:=((0 + 1,()),(ch b8 [] [97] (rO,0 + 1,()) 0,fM b8 [] [97] 0,()),())
theorem DV:(bz DK [97] rO).1=D0:=rfl
theorem DW:bD (bI (bz DK [97] rO).1) [97]=([[97]],[B1],0):=AO C1 DU rfl
theorem AP:bD (bI D0) [97]=([[97]],[B1],0):=by rw [<-DV];exact DW
def yQ (ns:List aE) (os:List (D aB)) (i k:Nat):Bool:=(nth aB os k).1.any (· == nth .str ns i)
def ed (ns:List aE) (os:List (D aB)) (i k:Nat):Bool:=((i:Int) == 0) || (List.range k).any fun m=>decide (m < i) && yQ ns os i m
def c6 (ns:List aE) (os:List (D aB)) (i k j:Nat):Bool:=ed ns os i k || (decide (k < i) && ((nth aB os k).1.take j).any (· == nth .str ns i))
theorem yR (ns:List aE) (os:List (D aB)) (i:Nat):((i:Int) == 0)=ed ns os i 0:=by unfold ed;simp
theorem yS (ns:List aE) (os:List (D aB)) (i k:Nat):ed ns os i (k + 1)=(ed ns os i k || (decide (k < i) && yQ ns os i k)):=by
 unfold ed;rw [List.range_succ,List.any_append];simp [Bool.or_assoc]
theorem yT (ns:List aE) (os:List (D aB)) (i k:Nat):ed ns os i k=c6 ns os i k 0:=by unfold c6;simp
theorem gr {l:List aE} {j:Nat} (h:j < l.length) (p:aE->Bool):(l.take (j + 1)).any p=((l.take j).any p || p (nth .str l j)):=by
 rw [eP (t:=.str) h,List.any_append];simp
theorem yU {ns:List aE} {os:List (D aB)} {i k j:Nat} (h:¬ j < (nth aB os k).1.length):c6 ns os i k j=ed ns os i (k + 1):=by
 rw [yS];unfold c6 yQ;rw [List.take_of_length_le (by omega)]
theorem AQ {ns:List aE} {os:List (D aB)} {i k j:Nat} (h:j < (nth aB os k).1.length) (e:c6 ns os i k j=true):true=c6 ns os i k (j + 1):=by
 unfold c6 at e ⊢
 rw [gr h]
 cases hb:ed ns os i k with
 | true=>rfl
 | false=>
  rw [hb] at e
  simp only [Bool.false_or,Bool.and_eq_true] at e
  simp [e.1];exact .inl (by simpa using e.2)
theorem AR {ns:List aE} {os:List (D aB)} {i k j:Nat} (h:¬ k < i) (e:c6 ns os i k j=false):false=c6 ns os i k (j + 1):=by
 unfold c6 at e ⊢
 rw [decide_eq_false h] at e ⊢
 simpa using e.symm
theorem AS {ns:List aE} {os:List (D aB)} {i k j:Nat} (h:j < (nth aB os k).1.length) (hk:k < i) (e:c6 ns os i k j=false):(nth .str (nth aB os k).1 j == nth .str ns i)=c6 ns os i k (j + 1):=by
 unfold c6 at e ⊢
 simp only [Bool.or_eq_false_iff] at e
 rw [decide_eq_true hk,Bool.true_and] at e
 rw [gr h,e.1,decide_eq_true hk,Bool.true_and,Bool.false_or,e.2,Bool.false_or]
theorem Scope.wanted {rd:Rd} {root:aE} {ns:List aE} {os:List (D aB)} (h:Scope rd root ns os) {i k:Nat} (hi:i < ns.length) (hk:¬ k < ns.length):ed ns os i k=true:=by
 unfold ed
 rcases Nat.eq_zero_or_pos i with h0 | h0
 ·subst h0;rfl
 ·obtain ⟨m,h1,h2⟩:=h.want i hi (by omega)
  rw [Bool.or_eq_true];right
  rw [List.any_eq_true]
  refine ⟨m,List.mem_range.2 (by omega),?_⟩
  rw [decide_eq_true h1,Bool.true_and]
  exact oQ.2 h2
theorem Scope.apart {rd:Rd} {root:aE} {ns:List aE} {os:List (D aB)} (h:Scope rd root ns os) {i k:Nat} (hi:i < ns.length) (hk:k < i):¬ nth .str ns k=nth .str ns i:=fun e=>by
 have h1:=List.pairwise_iff_getElem.1 h.nd k i (by omega) hi hk
 refine h1 ?_
 have e1:nth .str ns k=ns[k]'(by omega):=by unfold nth;rw [List.getD_eq_getElem?_getD,List.getElem?_eq_getElem (show k < ns.length by omega)];rfl
 have e2:nth .str ns i=ns[i]:=by unfold nth;rw [List.getD_eq_getElem?_getD,List.getElem?_eq_getElem hi];rfl
 rw [<-e1,<-e2];exact e
theorem Scope.read {rd:Rd} (ok:gF rd) {root:aE} {ns:List aE} {os:List (D aB)} (h:Scope rd root ns os) {i:Nat} (hi:i < ns.length):(rd (nth .str ns i)).2.2=0/\(bG (rd (nth .str ns i)).1).2=0/\(bG (rd (nth .str ns i)).1).1=nth aB os i:=by
 obtain ⟨h1,h2⟩:=h.AN i hi
 obtain ⟨k1,k2⟩:=kr ok h1
 exact ⟨k1,k2,h2.symm⟩
theorem Scope.Ed {rd:Rd} {root:aE} {ns:List aE} {os:List (D aB)} (h:Scope rd root ns os) {i j k:Nat} (hi:i < ns.length) {o:D aB} (e:o=nth aB os i) (hj:j < o.1.length) (hk:¬ k < ns.length):(ns.take k).any (· == nth .str o.1 j)=true:=by
 subst e
 rw [List.take_of_length_le (by omega)]
 exact oQ.2 (h.mN i hi _ (gM (t:=.str) hj))
theorem C2 {ns:List aE} {s:aE} {k:Nat} (h:k < ns.length) (e:(ns.take k).any (· == s)=true):true=(ns.take (k + 1)).any (· == s):=by rw [gr h,e];rfl
theorem C3 {ns:List aE} {s:aE} {k:Nat} (h:k < ns.length) (e:(ns.take k).any (· == s)=false):(nth .str ns k == s)=(ns.take (k + 1)).any (· == s):=by
 rw [gr h,e,Bool.false_or]
end Go.Mrl

