/- A part of the proof that the law EntrySaysCard holds of the given program: facts that are used there. -/
import Derived.Test.YtgokjhhcfemnhabGreatDoorPart2
import Derived.Lib.SplitLaws
import Derived.Lib.ItoaNum
import Derived.Lib.AtoiAll
import Derived.Handed
import Derived.Clock
import Derived.Lib.LaidTab
import Derived.Lib.LaidU8
import Derived.Lay
set_option linter.unusedSimpArgs false
set_option linter.unusedVariables false
namespace Go.Mrl
open Go.Vg
@[reducible] def eQ:Ty:=.prod .str (.prod (.int .i64) .unit)
abbrev FE:=aD × (aD × Int × Unit) × Int × Unit
abbrev ja:=(Int × Unit) × (List FE × Int × Unit) × Unit
def cX (y:FE):Int:=y.2.2.1
def kz (y:FE):aD:=y.1
def bH (x:ja) (s:aD):aD × Int × Int:=
 if fU eQ x.2.1.1 s=true then ((oX eQ x.2.1.1 s).1,(oX eQ x.2.1.1 s).2.1,0) else ([],0,5)
def gJ (x:ja) (s t:aD):ja × Int:=
 if ¬ aG s=0 then (x,aG s) else if 1200 < t.length then (x,2)
 else if (fU eQ x.2.1.1 s=false/\x.2.1.1.length=6)\/x.1.1=1000000 then (x,8)
 else (((x.1.1 + 1,()),(jh eQ x.2.1.1 s (t,x.1.1 + 1,()) x.2.1.2.1,pA eQ x.2.1.1 s x.2.1.2.1,()),()),0)
def fR (x:ja) (s:aD):ja × Int:=
 if fU eQ x.2.1.1 s=true then ((x.1,(jG eQ x.2.1.1 s,x.2.1.2.1,()),()),0) else (x,5)
def pa (x:ja):List aD:=lk (x.2.1.1.map kz)
def By:ja:=((0,()),([],0,()),())
theorem su {x:ja} {s:aD} (h:fU eQ x.2.1.1 s=false):bH x s=([],0,5):=by unfold bH;rw [if_neg (by rw [h];simp)]
theorem uR {x:ja} {s:aD} (h:fU eQ x.2.1.1 s=true):bH x s=((oX eQ x.2.1.1 s).1,(oX eQ x.2.1.1 s).2.1,0):=by unfold bH;rw [if_pos h]
theorem wY {x:ja} {s t:aD} (h:¬ aG s=0):gJ x s t=(x,aG s):=by unfold gJ;rw [if_pos h]
theorem wZ {x:ja} {s t:aD} (h:aG s=0) (h1:1200 < t.length):gJ x s t=(x,2):=by unfold gJ;rw [if_neg (by simp [h]),if_pos h1]
theorem w4 {x:ja} {s t:aD} (h:aG s=0) (h1:¬ 1200 < t.length) (h2:(fU eQ x.2.1.1 s=false/\x.2.1.1.length=6)\/x.1.1=1000000):gJ x s t=(x,8):=by unfold gJ;rw [if_neg (by simp [h]),if_neg h1,if_pos h2]
theorem Bz {x:ja} {s t:aD} (h:aG s=0) (h1:¬ 1200 < t.length) (h2:¬ ((fU eQ x.2.1.1 s=false/\x.2.1.1.length=6)\/x.1.1=1000000)) :
  gJ x s t=(((x.1.1 + 1,()),(jh eQ x.2.1.1 s (t,x.1.1 + 1,()) x.2.1.2.1,pA eQ x.2.1.1 s x.2.1.2.1,()),()),0):=by unfold gJ;rw [if_neg (by simp [h]),if_neg h1,if_neg h2]
theorem yO {x:ja} {s:aD} (h:fU eQ x.2.1.1 s=false):fR x s=(x,5):=by unfold fR;rw [if_neg (by rw [h];simp)]
theorem w5 {x:ja} {s:aD} (h:fU eQ x.2.1.1 s=true):fR x s=((x.1,(jG eQ x.2.1.1 s,x.2.1.2.1,()),()),0):=by unfold fR;rw [if_pos h]
theorem OQ {es:List FE} {seen:List Int} {y:FE} (h:y∈jq eQ es seen):(jq eQ es (seen++[cX y])).length < (jq eQ es seen).length:=by
 have e:jq eQ es (seen++[cX y])=(jq eQ es seen).filter fun z => !(cX z == cX y):=by
  unfold jq
  rw [List.filter_filter]
  apply List.filter_congr
  intro z _
  show (!(seen++[cX y]).contains (cX z))=_
  rw [Bool.eq_iff_iff]
  simp [cX,and_comm]
 rw [e]
 exact List.length_filter_lt_length_iff_exists.2 ⟨y,h,by simp⟩
theorem Fy {α β:Type} {f:α->β} {l:List α} (h:(l.map f).Nodup):l.Nodup:=by
 unfold List.Nodup at h ⊢
 rw [List.pairwise_map] at h
 exact h.imp fun hne e=>hne (by rw [e])
theorem w6 {α:Type} [DecidableEq α]:∀{a b:List α},a.Nodup->(∀y∈a,y∈b)->a.length<=b.length
 | [],_,_,_=>by simp
 | x :: a,b,hn,hs=>by
  have hn':=List.nodup_cons.1 hn
  have h1:(b.erase x).length=b.length - 1:=List.length_erase_of_mem (hs x (by simp))
  have h2:0 < b.length:=List.length_pos_of_mem (hs x (by simp))
  have:=w6 (b:=b.erase x) hn'.2 fun y hy=>(List.mem_erase_of_ne (fun (e:y=x)=>hn'.1 (by rw [<-e];exact hy))).2 (hs y (by simp [hy]))
  simp only [List.length_cons]
  omega
theorem G4 {es x:List FE} (hs:∀y∈x,y∈es) (hn:(x.map cX).Nodup):x.length<=es.length:=by
 have h1:=Fy hn
 exact w6 h1 hs
structure pY (es:List FE) (x:List FE):Prop where
 sub:∀y∈x,y∈es
 nodup:(x.map cX).Nodup
theorem pY.more {es x:List FE} {y:FE} (h:pY es x) (hy:y∈jq eQ es (x.map cX)):pY es (x++[y]):=by
 unfold jq at hy
 have hy':=List.mem_filter.1 hy
 have hn:cX y∉x.map cX:=by
  have:=hy'.2
  simpa [cX] using this
 refine ⟨fun z hz => ?_,?_⟩
 ·rcases List.mem_append.1 hz with hz | hz
  ·exact h.sub z hz
  ·simp at hz;subst hz;exact hy'.1
 ·rw [List.map_append,List.nodup_append]
  refine ⟨h.nodup,by simp,fun a ha b hb => ?_⟩
  simp at hb;subst hb
  exact fun e=>hn (e▸ha)
theorem w7 {α β:Type} {f:α->β} {l:List α} (h:(l.map f).Nodup):l.Nodup:=by
 unfold List.Nodup at h ⊢
 rw [List.pairwise_map] at h
 exact h.imp fun hne e=>hne (by rw [e])
theorem born_inj:∀{es:List FE},(es.map cX).Nodup->∀{a b:FE},a∈es->b∈es->cX a=cX b->a=b
 | [],_,_,_,h,_,_=>by simp at h
 | y :: r,hn,a,b,ha,hb,e=>by
  simp only [List.map_cons,List.nodup_cons] at hn
  rcases List.mem_cons.1 ha with ha' | ha' <;> rcases List.mem_cons.1 hb with hb' | hb'
  ·rw [ha',hb']
  ·exact (hn.1 (by rw [<-ha',e];exact List.mem_map_of_mem hb')).elim
  ·exact (hn.1 (by rw [<-hb',<-e];exact List.mem_map_of_mem ha')).elim
  ·exact born_inj hn.2 ha' hb' e
theorem pY.all {es x:List FE} (h:pY es x) (hn:(es.map cX).Nodup) (hl:jq eQ es (x.map cX) = []):x.Perm es:=by
 refine (List.perm_ext_iff_of_nodup (w7 h.nodup) (w7 hn)).2 fun y=>⟨h.sub y,fun hy => ?_⟩
 have hin:cX y∈x.map cX:=by
  apply Classical.byContradiction
  intro hc
  have:y∈jq eQ es (x.map cX):=List.mem_filter.2 ⟨hy,by simpa [cX] using hc⟩
  rw [hl] at this;simp at this
 obtain ⟨z,hz,e⟩:=List.mem_map.1 hin
 have:=born_inj hn (h.sub z hz) hy e
 rw [<-this];exact hz
theorem G5 {es x:List FE} (h:pY es x) (hn:(es.map cX).Nodup) (hl:jq eQ es (x.map cX) = []):lk (x.map kz)=lk (es.map kz):=Fx ((h.all hn hl).map kz)
theorem at_mem:∀{es:List FE} {y:FE},(es.map cX).Nodup->y∈es->vH eQ es (cX y)=y/\qD eQ es (cX y)=true
 | [],_,_,h=>by simp at h
 | z :: r,y,hn,hy=>by
  simp only [List.map_cons,List.nodup_cons] at hn
  rcases List.mem_cons.1 hy with rfl | hy
  ·exact ⟨by rw [vH];exact if_pos rfl,by rw [qD];exact if_pos rfl⟩
  ·have hne:¬ cX z=cX y:=fun e=>hn.1 (by rw [e];exact List.mem_map_of_mem hy)
   obtain ⟨h1,h2⟩:=at_mem hn.2 hy
   exact ⟨by rw [vH];exact (if_neg hne).trans h1,by rw [qD];exact (if_neg hne).trans h2⟩
theorem BA (l:List Int) (a:Int):oY (l++[a])=a:=by simp [oY]
end Go.Mrl

namespace Go.Mrl
open Go.Vg
abbrev RF:=aD × aD × Int × Unit
abbrev RS:=List RF × Int × Unit
def hY (y:RF):aD:=y.1
def fY (s:aD) (y:RF):Bool:=!(y.1 == s)
def bG:List RF->aD->aD × Int × Int
 | [],_=>([],0,5)
 | y :: r,s=>if y.1=s then (y.2.1,y.2.2.1,0) else bG r s
def lQ (s:aD) (e:RF):List RF->List RF
 | []=>[e]
 | y :: r=>if (Op.bytesLess s y.1 || s == y.1)=true then e :: (y :: r).filter (fY s) else y :: lQ s e r
def gX (x:RS) (s t:aD):RS × Int:=
 if ¬ aG s=0 then (x,aG s) else if 1200 < t.length then (x,2)
 else if (0 < (bG x.1 s).2.2/\x.1.length=6)\/x.2.1=1000000 then (x,8)
 else ((lQ s (s,t,x.2.1 + 1,()) x.1,x.2.1 + 1,()),0)
def gK (x:RS) (s:aD):RS × Int:=if (x.1.filter (fY s)).length=x.1.length then (x,5) else ((x.1.filter (fY s),x.2),0)
theorem BB (L:List RF) (s:aD):(bG L s).2.2=0\/(bG L s).2.2=5:=by
 induction L with
 | nil=>exact .inr rfl
 | cons y r ih=>unfold bG;split;exact .inl rfl;exact ih
def sw (y:FE):RF:=(y.1,y.2.1.1,y.2.1.2.1,())
def tN (L:List RF):Prop:=L.Pairwise fun a b=>nA a.1 b.1
structure cD (x:ja) (r:RS):Prop where
 now:r.2.1=x.1.1
 lo:0<=x.1.1
 hi:x.1.1<=1000000
 len:x.2.1.1.length<=6
 born:(x.2.1.1.map cX).Nodup
 tf:∀y∈x.2.1.1,cX y < x.2.1.2.1
 CV:tN r.1
 perm:r.1.Perm (x.2.1.1.map sw)
theorem cD.new:cD By ([],0,()):=⟨rfl,Int.le_refl _,by decide,by decide,by decide,fun y hy=>by simp [By] at hy, .nil, .refl _⟩
theorem w8 {L:List RF} (h:tN L):(L.map hY).Nodup:=by
 unfold List.Nodup
 rw [List.pairwise_map]
 exact h.imp fun hlt e=>by unfold hY at e;rw [e] at hlt;exact o8 _ hlt
theorem cD.names {x:ja} {r:RS} (h:cD x r):(x.2.1.1.map kz).Nodup:=by
 have h1:=(h.perm.map hY).nodup_iff.1 (w8 h.CV)
 rw [List.map_map] at h1
 exact h1
theorem DO:∀{L:List RF} {s:aD},(L.map hY).Nodup->∀y∈L,y.1=s->bG L s=(y.2.1,y.2.2.1,0)
 | [],_,_,_,h,_=>by simp at h
 | z :: r,s,hn,y,hy,e=>by
  simp only [List.map_cons,List.nodup_cons] at hn
  unfold bG
  rcases List.mem_cons.1 hy with rfl | hy
  ·rw [if_pos e]
  ·have:¬ z.1=s:=fun e2=>hn.1 (by rw [show hY z=hY y from e2.trans e.symm];exact List.mem_map_of_mem hy)
   rw [if_neg this]
   exact DO hn.2 y hy e
theorem uS:∀{L:List RF} {s:aD},(∀y∈L,¬ y.1=s)->bG L s=([],0,5)
 | [],_,_=>rfl
 | z :: r,s,h=>by
  unfold bG
  rw [if_neg (h z (by simp))]
  exact uS fun y hy=>h y (by simp [hy])
theorem pI:∀{es:List FE} {s:aD},fU eQ es s=true ↔ ∃y∈es,y.1=s
 | [],_=>by simp [fU]
 | z :: r,s=>by
  unfold fU
  by_cases c:z.1=s
  ·simp [c]
  ·rw [if_neg c,pI];simp [c]
theorem G6:∀{es:List FE} {s:aD},(es.map kz).Nodup->∀y∈es,y.1=s->oX eQ es s=y.2.1
 | [],_,_,_,h,_=>by simp at h
 | z :: r,s,hn,y,hy,e=>by
  simp only [List.map_cons,List.nodup_cons] at hn
  unfold oX
  rcases List.mem_cons.1 hy with rfl | hy
  ·rw [if_pos e]
  ·have:¬ z.1=s:=fun e2=>hn.1 (by rw [show kz z=kz y from e2.trans e.symm];exact List.mem_map_of_mem hy)
   rw [if_neg this]
   exact G6 hn.2 y hy e
theorem cD.read {x:ja} {r:RS} (h:cD x r) (s:aD):bH x s=bG r.1 s:=by
 by_cases c:fU eQ x.2.1.1 s=true
 ·obtain ⟨y,hy,e⟩:=pI.1 c
  rw [uR c,G6 h.names y hy e]
  exact (DO (w8 h.CV) (sw y) (h.perm.mem_iff.2 (List.mem_map_of_mem hy)) e).symm
 ·rw [su (by simpa using c)]
  refine (uS fun y hy e=>c ?_).symm
  obtain ⟨z,hz,rfl⟩:=List.mem_map.1 (h.perm.mem_iff.1 hy)
  exact pI.2 ⟨z,hz,e⟩
theorem cD.list {x:ja} {r:RS} (h:cD x r):pa x=r.1.map hY:=by
 unfold pa
 refine G2 ?_ ?_
 ·have:=h.perm.map hY
  rw [List.map_map] at this
  exact this
 ·rw [List.pairwise_map]
  exact h.CV.imp ql
theorem gZ {s:aD} {y:RF}:fY s y=true ↔ ¬ y.1=s:=by simp [fY]
theorem G7 {s:aD} {e:RF}:∀{L:List RF} {y:RF},y∈lQ s e L->y=e\/y∈L
 | [],y,h=>by simp [lQ] at h;exact .inl h
 | z :: r,y,h=>by
  unfold lQ at h
  split at h
  ·rcases List.mem_cons.1 h with h | h
   ·exact .inl h
   ·exact .inr (List.mem_filter.1 h).1
  ·rcases List.mem_cons.1 h with rfl | h
   ·exact .inr (by simp)
   ·rcases G7 h with h | h
    ·exact .inl h
    ·exact .inr (by simp [h])
theorem not_le {s a:aD} (h:¬ (Op.bytesLess s a || s == a)=true):nA a s:=by
 simp at h
 exact wU (a:=a) (b:=s) (by unfold nQ nA;rw [h.1];simp) (fun e=>h.2 e.symm)
theorem yP {s:aD} {e:RF} (he:e.1=s):∀{L:List RF},tN L->tN (lQ s e L)
 | [],_=>by simp [lQ,tN]
 | z :: r,h=>by
  have h':=List.pairwise_cons.1 h
  unfold lQ
  split
  ·rename_i c
   refine List.pairwise_cons.2 ⟨fun y hy => ?_,h.filter _⟩
   have hy':=List.mem_filter.1 hy
   have hn:=gZ.1 hy'.2
   have hz:nQ s z.1:=by
    simp at c
    rcases c with c | rfl
    ·exact ql c
    ·exact G0 _
   have hzy:nQ z.1 y.1:=by
    rcases List.mem_cons.1 hy'.1 with e2 | hy2
    ·rw [e2];exact G0 _
    ·exact ql (h'.1 y hy2)
   rw [he]
   exact wU (wT hz hzy) (fun e2=>hn e2.symm)
  ·rename_i c
   have hlt:=not_le c
   refine List.pairwise_cons.2 ⟨fun y hy => ?_,yP he h'.2⟩
   rcases G7 hy with rfl | hy
   ·rw [he];exact hlt
   ·exact h'.1 y hy
theorem filter_all {s:aD}:∀{L:List RF},(∀y∈L,¬ y.1=s)->L.filter (fY s)=L:=fun h=>List.filter_eq_self.2 fun y hy=>gZ.2 (h y hy)
theorem DP {s:aD} {e:RF}:∀{L:List RF},tN L->(lQ s e L).Perm (e :: L.filter (fY s))
 | [],_ => .refl _
 | z :: r,h=>by
  have h':=List.pairwise_cons.1 h
  unfold lQ
  split
  ·exact .refl _
  ·rename_i c
   have hlt:=not_le c
   have hz:fY s z=true:=gZ.2 fun e=>by rw [e] at hlt;exact o8 _ hlt
   rw [List.filter_cons,if_pos hz]
   exact ((DP h'.2).cons z).trans (List.Perm.swap e z _)
theorem w9 {s:aD} {v:aD × Int × Unit} {c:Int}:∀{es:List FE},(es.map kz).Nodup->((jh eQ es s v c).map sw).Perm ((s,v.1,v.2.1,()) :: (es.map sw).filter (fY s))
 | [],_ => .refl _
 | z :: r,hn=>by
  simp only [List.map_cons,List.nodup_cons] at hn
  unfold jh
  by_cases e:z.1=s
  ·rw [if_pos e]
   have h1:fY s (sw z)=false:=by
    cases h:fY s (sw z) with
    | false=>rfl
    | true=>exact absurd e (gZ.1 h)
   rw [List.map_cons,List.map_cons,List.filter_cons,if_neg (by rw [h1];simp),filter_all]
   ·exact .refl _
   ·intro y hy e2
    obtain ⟨z2,hz2,rfl⟩:=List.mem_map.1 hy
    exact hn.1 (by rw [show kz z=kz z2 from e.trans (show s=z2.1 from e2.symm)];exact List.mem_map_of_mem hz2)
  ·rw [if_neg e]
   have h1:fY s (sw z)=true:=gZ.2 e
   rw [List.map_cons,List.map_cons,List.filter_cons,if_pos h1]
   exact ((w9 hn.2).cons (sw z)).trans (List.Perm.swap _ _ _)
theorem sx {s:aD} {v:aD × Int × Unit} {c:Int}:∀{es:List FE},(jh eQ es s v c).map cX=if fU eQ es s=true then es.map cX else es.map cX++[c]
 | []=>rfl
 | z :: r=>by
  unfold jh fU
  by_cases e:z.1=s
  ·rw [if_pos e,if_pos e];rfl
  ·rw [if_neg e,if_neg e,List.map_cons,sx]
   split <;> rfl
theorem G8 {s:aD}:∀{es:List FE},(es.map kz).Nodup->(jG eQ es s).map sw=(es.map sw).filter (fY s)
 | [],_=>rfl
 | z :: r,hn=>by
  simp only [List.map_cons,List.nodup_cons] at hn
  unfold jG
  by_cases e:z.1=s
  ·have h1:¬ fY s (sw z)=true:=fun h=>gZ.1 h e
   rw [if_pos e,List.map_cons,List.filter_cons,if_neg h1,filter_all]
   intro y hy e2
   obtain ⟨z2,hz2,rfl⟩:=List.mem_map.1 hy
   exact hn.1 (by rw [show kz z=kz z2 from e.trans (show s=z2.1 from e2.symm)];exact List.mem_map_of_mem hz2)
  ·have h1:fY s (sw z)=true:=gZ.2 e
   rw [if_neg e,List.map_cons,List.map_cons,List.filter_cons,if_pos h1,G8 hn.2]
theorem uT {s:aD}:∀{es:List FE},(jG eQ es s).Sublist es
 | [] => .refl _
 | z :: r=>by
  unfold jG
  split
  ·exact List.sublist_cons_self _ _
  ·exact uT.cons_cons _
theorem cD.has {x:ja} {r:RS} (h:cD x r) (s:aD):0 < (bG r.1 s).2.2 ↔ fU eQ x.2.1.1 s=false:=by
 rw [<-h.read s]
 cases c:fU eQ x.2.1.1 s with
 | true=>rw [uR c];simp
 | false=>rw [su c];simp
theorem cD.write {x:ja} {r:RS} (h:cD x r) (s t:aD):cD (gJ x s t).1 (gX r s t).1/\(gJ x s t).2=(gX r s t).2:=by
 have hlen:r.1.length=x.2.1.1.length:=by rw [h.perm.length_eq,List.length_map]
 have hc:((fU eQ x.2.1.1 s=false/\x.2.1.1.length=6)\/x.1.1=1000000) ↔ ((0 < (bG r.1 s).2.2/\r.1.length=6)\/r.2.1=1000000):=by rw [h.has,hlen,h.now]
 by_cases h1:aG s=0
 ·by_cases h2:1200 < t.length
  ·rw [wZ h1 h2]
   unfold gX;rw [if_neg (by simp [h1]),if_pos h2]
   exact ⟨h,rfl⟩
  ·by_cases h3:(fU eQ x.2.1.1 s=false/\x.2.1.1.length=6)\/x.1.1=1000000
   ·rw [w4 h1 h2 h3]
    unfold gX;rw [if_neg (by simp [h1]),if_neg h2,if_pos (hc.1 h3)]
    exact ⟨h,rfl⟩
   ·rw [Bz h1 h2 h3]
    unfold gX;rw [if_neg (by simp [h1]),if_neg h2,if_neg (fun h'=>h3 (hc.2 h'))]
    refine ⟨⟨by rw [h.now],by have:=h.lo;simp only;omega,by have:=h.hi;simp only;omega,?_,?_,?_,yP (s:=s) (e:=(s,t,r.2.1 + 1,())) rfl h.CV,?_⟩,rfl⟩
    ·have hp:=(w9 (s:=s) (v:=(t,x.1.1 + 1,())) (c:=x.2.1.2.1) h.names).length_eq
     have hb:=congrArg List.length (sx (s:=s) (v:=(t,x.1.1 + 1,())) (c:=x.2.1.2.1) (es:=x.2.1.1))
     simp only [List.length_map] at hb
     show (jh eQ x.2.1.1 s (t,x.1.1 + 1,()) x.2.1.2.1).length<=6
     rw [hb]
     have:=h.len
     cases c:fU eQ x.2.1.1 s with
     | true=>simpa using this
     | false=>
      have:¬ x.2.1.1.length=6:=fun e=>h3 (.inl ⟨c,e⟩)
      simp;omega
    ·show ((jh eQ x.2.1.1 s (t,x.1.1 + 1,()) x.2.1.2.1).map cX).Nodup
     rw [sx]
     split
     ·exact h.born
     ·rw [List.nodup_append]
      refine ⟨h.born,by simp,fun a ha b hb e => ?_⟩
      simp at hb
      obtain ⟨y,hy,rfl⟩:=List.mem_map.1 ha
      have:=h.tf y hy
      omega
    ·intro y hy
     have hy':cX y∈(jh eQ x.2.1.1 s (t,x.1.1 + 1,()) x.2.1.2.1).map cX:=List.mem_map_of_mem hy
     rw [sx] at hy'
     show cX y < pA eQ x.2.1.1 s x.2.1.2.1
     unfold pA
     split at hy'
     ·rename_i c
      rw [if_pos c]
      obtain ⟨z,hz,e⟩:=List.mem_map.1 hy'
      rw [<-e];exact h.tf z hz
     ·rename_i c
      rw [if_neg c]
      rcases List.mem_append.1 hy' with hy' | hy'
      ·obtain ⟨z,hz,e⟩:=List.mem_map.1 hy'
       have:=h.tf z hz
       omega
      ·simp at hy';omega
    ·refine (DP h.CV).trans ?_
     rw [h.now]
     exact ((h.perm.filter _).cons _).trans (w9 (v:=(t,x.1.1 + 1,())) (c:=x.2.1.2.1) h.names).symm
 ·rw [wY h1]
  unfold gX;rw [if_pos h1]
  exact ⟨h,rfl⟩
theorem cD.remove {x:ja} {r:RS} (h:cD x r) (s:aD):cD (fR x s).1 (gK r s).1/\(fR x s).2=(gK r s).2:=by
 have hp:(r.1.filter (fY s)).Perm ((jG eQ x.2.1.1 s).map sw):=by rw [G8 h.names];exact h.perm.filter _
 cases c:fU eQ x.2.1.1 s with
 | false=>
  have hall:r.1.filter (fY s)=r.1:=filter_all fun y hy e=>by
   obtain ⟨z,hz,rfl⟩:=List.mem_map.1 (h.perm.mem_iff.1 hy)
   have:=pI.2 ⟨z,hz,e⟩
   rw [c] at this;cases this
  rw [yO c]
  unfold gK;rw [if_pos (by rw [hall])]
  exact ⟨h,rfl⟩
 | true=>
  obtain ⟨y,hy,e⟩:=pI.1 c
  have hlt:(r.1.filter (fY s)).length < r.1.length:=List.length_filter_lt_length_iff_exists.2 ⟨sw y,h.perm.mem_iff.2 (List.mem_map_of_mem hy),by rw [gZ];exact fun h=>h e⟩
  rw [w5 c]
  unfold gK;rw [if_neg (by omega)]
  refine ⟨⟨h.now,h.lo,h.hi,Nat.le_trans uT.length_le h.len,(uT.map cX).nodup h.born,fun y hy=>h.tf y (uT.subset hy),List.Pairwise.filter _ h.CV,hp⟩,rfl⟩
theorem mJ {L:List RF} {i:Nat} (h:i < L.length):L.drop i=nth cW L i :: L.drop (i + 1):=gY (t:=cW) h
theorem G9:∀{L:List RF} {s:aD} {i:Nat},(∀j,j < i->¬ (nth cW L j).1=s)->i < L.length->(nth cW L i).1=s->bG L s=((nth cW L i).2.1,(nth cW L i).2.2.1,0)
 | [],_,_,_,h,_=>by simp at h
 | y :: r,s,0,_,_,e=>by unfold bG;rw [if_pos (show y.1=s from e)];rfl
 | y :: r,s,i + 1,hn,h,e=>by
  unfold bG
  rw [if_neg (show ¬ y.1=s from hn 0 (by omega))]
  exact G9 (L:=r) (i:=i) (fun j hj=>hn (j + 1) (by omega)) (by simpa using h) e
theorem OS {L:List RF} {s:aD} (h:∀j,j < L.length->¬ (nth cW L j).1=s):bG L s=([],0,5):=
 uS fun y hy e=>by
  obtain ⟨j,hj,rfl⟩:=kf (t:=cW) hy
  exact h j hj e
def dA (L:List RF) (s:aD) (e:RF) (i:Nat) (laid:Bool) (out:List RF):Prop:=
 (laid=false->out++lQ s e (L.drop i)=lQ s e L)/\(laid=true->out++(L.drop i).filter (fY s)=lQ s e L)/\out.length<=i + 1/\(laid=false->out.length<=i)
theorem dA.start (L:List RF) (s:aD) (e:RF):dA L s e 0 false []:=⟨fun _=>rfl,fun h=>(by cases h),by simp,fun _=>by simp⟩
theorem dA.put {L:List RF} {s:aD} {e:RF} {i:Nat} {out:List RF} (h:dA L s e i false out) (hi:i < L.length) (hle:(Op.bytesLess s (nth cW L i).1 || s == (nth cW L i).1)=true)
  (hne:¬ (nth cW L i).1=s):dA L s e (i + 1) true (out++[e]++[nth cW L i]):=by
 refine ⟨fun h=>by (cases h),fun _ => ?_,by have:=h.2.2.2 rfl;simp;omega,fun h=>by cases h⟩
 rw [<-h.1 rfl,mJ hi,lQ,if_pos hle,List.filter_cons,if_pos (gZ.2 hne)]
 simp
theorem dA.K7 {L:List RF} {s:aD} {e:RF} {i:Nat} {out:List RF} (h:dA L s e i false out) (hi:i < L.length) (hle:(Op.bytesLess s (nth cW L i).1 || s == (nth cW L i).1)=true)
  (hne:(nth cW L i).1=s):dA L s e (i + 1) true (out++[e]):=by
 refine ⟨fun h=>by (cases h),fun _ => ?_,by have:=h.2.2.2 rfl;simp;omega,fun h=>by cases h⟩
 rw [<-h.1 rfl,mJ hi,lQ,if_pos hle,List.filter_cons,if_neg (fun h=>gZ.1 h hne)]
 simp
theorem dA.low {L:List RF} {s:aD} {e:RF} {i:Nat} {out:List RF} (h:dA L s e i false out) (hi:i < L.length) (hle:(Op.bytesLess s (nth cW L i).1 || s == (nth cW L i).1)=false):dA L s e (i + 1) false (out++[nth cW L i]):=by
 refine ⟨fun _ => ?_,fun h=>by (cases h),by have:=h.2.2.2 rfl;simp;omega,fun _=>by have:=h.2.2.2 rfl;simp;omega⟩
 rw [<-h.1 rfl,mJ hi,lQ,if_neg (by rw [hle];simp)]
 simp
theorem dA.high {L:List RF} {s:aD} {e:RF} {i:Nat} {out:List RF} (h:dA L s e i true out) (hi:i < L.length) (hne:¬ (nth cW L i).1=s):dA L s e (i + 1) true (out++[nth cW L i]):=by
 refine ⟨fun h=>by (cases h),fun _ => ?_,by have:=h.2.2.1;simp;omega,fun h=>by cases h⟩
 rw [<-h.2.1 rfl,mJ hi,List.filter_cons,if_pos (gZ.2 hne)]
 simp
theorem dA.skip {L:List RF} {s:aD} {e:RF} {i:Nat} {out:List RF} (h:dA L s e i true out) (hi:i < L.length) (hne:(nth cW L i).1=s):dA L s e (i + 1) true out:=by
 refine ⟨fun h=>by (cases h),fun _ => ?_,by have:=h.2.2.1;omega,fun h=>by cases h⟩
 rw [<-h.2.1 rfl,mJ hi,List.filter_cons,if_neg (fun h=>gZ.1 h hne)]
theorem dA.last {L:List RF} {s:aD} {e:RF} {i:Nat} {out:List RF} (h:dA L s e i false out) (hi:L.length<=i):out++[e]=lQ s e L:=by
 rw [<-h.1 rfl,List.drop_eq_nil_of_le hi];rfl
theorem dA.all {L:List RF} {s:aD} {e:RF} {i:Nat} {out:List RF} (h:dA L s e i true out) (hi:L.length<=i):out=lQ s e L:=by
 rw [<-h.2.1 rfl,List.drop_eq_nil_of_le hi];simp
theorem OT {L out T:List RF} {s:aD} {i:Nat} (h:out++(L.drop i).filter (fY s)=T) (hi:i < L.length) (hne:¬ (nth cW L i).1=s):out++[nth cW L i]++(L.drop (i + 1)).filter (fY s)=T:=by
 rw [<-h,mJ hi,List.filter_cons,if_pos (gZ.2 hne)];simp
theorem OU {L out T:List RF} {s:aD} {i:Nat} (h:out++(L.drop i).filter (fY s)=T) (hi:i < L.length) (hne:(nth cW L i).1=s):out++(L.drop (i + 1)).filter (fY s)=T:=by
 rw [<-h,mJ hi,List.filter_cons,if_neg (fun h=>gZ.1 h hne)]
theorem Ha {L out T:List RF} {s:aD} {i:Nat} (h:out++(L.drop i).filter (fY s)=T) (hi:L.length<=i):out=T:=by
 rw [<-h,List.drop_eq_nil_of_le hi];simp
theorem BC {L:List RF} {i:Nat} (hi:i < L.length):(L.take i).map hY++[(nth cW L i).1]=(L.take (i + 1)).map hY:=by
 rw [iV (t:=cW) hi,List.map_append];rfl
theorem Jt {x:RS} {s t:aD} (h:¬ aG s=0):gX x s t=(x,aG s):=by unfold gX;rw [if_pos h]
theorem Ju {x:RS} {s t:aD} (h:aG s=0) (h1:1200 < t.length):gX x s t=(x,2):=by unfold gX;rw [if_neg (by simp [h]),if_pos h1]
theorem Jv {x:RS} {s t:aD} (h:aG s=0) (h1:¬ 1200 < t.length) (h2:(0 < (bG x.1 s).2.2/\x.1.length=6)\/x.2.1=1000000):gX x s t=(x,8):=by unfold gX;rw [if_neg (by simp [h]),if_neg h1,if_pos h2]
theorem DQ {x:RS} {s t:aD} (h:aG s=0) (h1:¬ 1200 < t.length) (h2:¬ ((0 < (bG x.1 s).2.2/\x.1.length=6)\/x.2.1=1000000)) :
  gX x s t=((lQ s (s,t,x.2.1 + 1,()) x.1,x.2.1 + 1,()),0):=by unfold gX;rw [if_neg (by simp [h]),if_neg h1,if_neg h2]
theorem Mw {x:RS} {s:aD} (h:(x.1.filter (fY s)).length=x.1.length):gK x s=(x,5):=by unfold gK;rw [if_pos h]
theorem Jw {x:RS} {s:aD} (h:¬ (x.1.filter (fY s)).length=x.1.length):gK x s=((x.1.filter (fY s),x.2),0):=by unfold gK;rw [if_neg h]
end Go.Mrl

namespace Go.Mrl
open Go.Vg
def dJ (n:Int):Bool:=decide (-2147483648<=n) && decide (n<=2147483647)
def iI:List (List UInt8)->List (List UInt8)->Int
 | _,[]=>0
 | p,s :: r=>if aG s > 0 then aG s else if p.any (· == s)=true then 3 else iI (p++[s]) r
def jM:List Int->Int
 | []=>0
 | n :: r=>if dJ n=true then jM r else 1
def hZ (n:Nat):List (D aN)->List (D aN)->Int
 | _,[]=>0
 | p,s :: r=>if aG s.1 > 0 then aG s.1 else if s.2.1 < 0\/s.2.1>=(n:Int) then 1 else if p.any (fun x=>x.1 == s.1)=true then 3 else hZ n (p++[s]) r
def ik (a:Int):Option Int->Bool
 | some b=>decide (a<=b)
 | none=>false
def iJ (n:Nat) (prev:Option Int) (t:D aO):Int:=
 if t.1 < 0\/t.1>=(n:Int)\/dJ t.2.2.1=false then 1
 else if t.2.1 < 1\/t.2.1 > 3\/ik t.1 prev=true then 3
 else if t.2.1=1 then (if t.2.2.2.1≠[]\/t.2.2.2.2.1=true then 3 else 0)
 else aG t.2.2.2.1
def jW (n:Nat):Option Int->List (D aO)->Int
 | _,[]=>0
 | prev,t :: r=>if iJ n prev t≠0 then iJ n prev t else jW n (some t.1) r
def fS (o:D aA):Prop:=o.1.length > 4\/o.2.1.length < 1\/o.2.1.length > 40\/o.2.2.1.length > 8\/o.2.2.2.1.length > 6
instance (o:D aA):Decidable (fS o):=by unfold fS;infer_instance
def cB (o:D aA):Int:=
 if fS o then 2 else if iI [] o.1≠0 then iI [] o.1 else if jM o.2.1≠0 then jM o.2.1
 else if hZ o.2.1.length [] o.2.2.1≠0 then hZ o.2.1.length [] o.2.2.1 else jW o.2.1.length none o.2.2.2.1
theorem iK {t:Ty} {l:List (D t)} {i:Nat} (h:i < l.length):l.take (i + 1)=l.take i++[nth t l i]:=by
 rw [List.take_add_one];congr 1;unfold nth;simp [h]
theorem vO:∀(l p:List (List UInt8)),0<=iI p l
 | [],_=>Int.le_refl _
 | s :: r,p=>by
  unfold iI
  split
  ·omega
  ·split
   ·decide
   ·exact vO r _
theorem vP:∀l:List Int,0<=jM l
 | []=>Int.le_refl _
 | n :: r=>by
  unfold jM
  split
  ·exact vP r
  ·decide
theorem rE (n:Nat):∀(l p:List (D aN)),0<=hZ n p l
 | [],_=>Int.le_refl _
 | s :: r,p=>by
  unfold hZ
  split
  ·omega
  ·split
   ·decide
   ·split
    ·decide
    ·exact rE n r _
theorem Jx (n:Nat) (p:Option Int) (t:D aO):0<=iJ n p t:=by
 unfold iJ
 split
 ·decide
 ·split
  ·decide
  ·split
   ·split <;> decide
   ·exact cK _
theorem xa (n:Nat):∀(l:List (D aO)) (p:Option Int),0<=jW n p l
 | [],_=>Int.le_refl _
 | t :: r,p=>by
  unfold jW
  split
  ·exact Jx n p t
  ·exact xa n r _
theorem vQ (o:D aA):0<=cB o:=by
 unfold cB
 split
 ·decide
 ·split
  ·exact vO _ _
  ·split
   ·exact vP _
   ·split
    ·exact rE _ _ _
    ·exact xa _ _ _
structure iM (l:List (List UInt8)) (i:Nat):Prop where
 le:i<=l.length
 eq:iI (l.take i) (l.drop i)=iI [] l
theorem iM.zero (l:List (List UInt8)):iM l 0:=⟨Nat.zero_le _,rfl⟩
theorem iM.fault {l:List (List UInt8)} {i:Nat} (h:iM l i) (hi:i < l.length) (hf:aG (nth .str l i) > 0):iI [] l=aG (nth .str l i):=by
 rw [<-h.eq,gY (t:=.str) hi];unfold iI;rw [if_pos hf]
theorem iM.dup {l:List (List UInt8)} {i:Nat} (h:iM l i) (hi:i < l.length) (hf:aG (nth .str l i)<=0) (ha:(l.take i).any (· == nth .str l i)=true):iI [] l=3:=by
 rw [<-h.eq,gY (t:=.str) hi];unfold iI;rw [if_neg (by omega),if_pos ha]
theorem iM.next {l:List (List UInt8)} {i:Nat} (h:iM l i) (hi:i < l.length) (hf:aG (nth .str l i)<=0) (ha:(l.take i).any (· == nth .str l i)=false):iM l (i + 1):=by
 refine ⟨hi,?_⟩
 rw [<-h.eq,gY (t:=.str) hi,iK (t:=.str) hi]
 conv=>rhs;unfold iI
 rw [if_neg (by omega),if_neg (by rw [ha];decide)]
theorem iM.done {l:List (List UInt8)} {i:Nat} (h:iM l i) (hi:¬ i < l.length):iI [] l=0:=by
 rw [<-h.eq,List.drop_eq_nil_of_le (by omega)];rfl
structure jw (l:List Int) (i:Nat):Prop where
 le:i<=l.length
 eq:jM (l.drop i)=jM l
theorem jw.zero (l:List Int):jw l 0:=⟨Nat.zero_le _,rfl⟩
theorem jw.fault {l:List Int} {i:Nat} (h:jw l i) (hi:i < l.length) (hf:dJ (nth (.int .i64) l i)=false):jM l=1:=by
 rw [<-h.eq,gY (t:=.int .i64) hi];unfold jM;rw [if_neg (by rw [hf];decide)]
theorem jw.next {l:List Int} {i:Nat} (h:jw l i) (hi:i < l.length) (hf:dJ (nth (.int .i64) l i)=true):jw l (i + 1):=by
 refine ⟨hi,?_⟩
 rw [<-h.eq,gY (t:=.int .i64) hi]
 conv=>rhs;unfold jM
 rw [if_pos hf]
theorem jw.done {l:List Int} {i:Nat} (h:jw l i) (hi:¬ i < l.length):jM l=0:=by
 rw [<-h.eq,List.drop_eq_nil_of_le (by omega)];rfl
structure jr (n:Nat) (l:List (D aN)) (i:Nat):Prop where
 le:i<=l.length
 eq:hZ n (l.take i) (l.drop i)=hZ n [] l
theorem jr.zero (n:Nat) (l:List (D aN)):jr n l 0:=⟨Nat.zero_le _,rfl⟩
theorem jr.fault {n:Nat} {l:List (D aN)} {i:Nat} (h:jr n l i) (hi:i < l.length) (hf:aG (nth aN l i).1 > 0):hZ n [] l=aG (nth aN l i).1:=by
 rw [<-h.eq,gY (t:=aN) hi];unfold hZ;rw [if_pos hf]
theorem jr.out {n:Nat} {l:List (D aN)} {i:Nat} (h:jr n l i) (hi:i < l.length) (hf:aG (nth aN l i).1<=0) (ho:(nth aN l i).2.1 < 0\/(nth aN l i).2.1>=(n:Int)):hZ n [] l=1:=by
 rw [<-h.eq,gY (t:=aN) hi];unfold hZ;rw [if_neg (by omega),if_pos ho]
theorem jr.dup {n:Nat} {l:List (D aN)} {i:Nat} (h:jr n l i) (hi:i < l.length) (hf:aG (nth aN l i).1<=0) (ho:¬ ((nth aN l i).2.1 < 0\/(nth aN l i).2.1>=(n:Int)))
  (ha:(l.take i).any (fun x=>x.1 == (nth aN l i).1)=true):hZ n [] l=3:=by
 rw [<-h.eq,gY (t:=aN) hi];unfold hZ;rw [if_neg (by omega),if_neg ho,if_pos ha]
theorem jr.next {n:Nat} {l:List (D aN)} {i:Nat} (h:jr n l i) (hi:i < l.length) (hf:aG (nth aN l i).1<=0) (ho:¬ ((nth aN l i).2.1 < 0\/(nth aN l i).2.1>=(n:Int)))
  (ha:(l.take i).any (fun x=>x.1 == (nth aN l i).1)=false):jr n l (i + 1):=by
 refine ⟨hi,?_⟩
 rw [<-h.eq,gY (t:=aN) hi,iK (t:=aN) hi]
 conv=>rhs;unfold hZ
 rw [if_neg (by omega),if_neg ho,if_neg (by rw [ha];decide)]
theorem jr.done {n:Nat} {l:List (D aN)} {i:Nat} (h:jr n l i) (hi:¬ i < l.length):hZ n [] l=0:=by
 rw [<-h.eq,List.drop_eq_nil_of_le (by omega)];rfl
def jd (l:List (D aO)) (i:Nat):Option Int:=if i=0 then none else some (nth aO l (i - 1)).1
structure kP (n:Nat) (l:List (D aO)) (i:Nat):Prop where
 le:i<=l.length
 eq:jW n (jd l i) (l.drop i)=jW n none l
theorem kP.zero (n:Nat) (l:List (D aO)):kP n l 0:=⟨Nat.zero_le _,rfl⟩
theorem kP.fault {n:Nat} {l:List (D aO)} {i:Nat} (h:kP n l i) (hi:i < l.length) {f:Int} (hf:iJ n (jd l i) (nth aO l i)=f) (h0:f≠0):jW n none l=f:=by
 rw [<-h.eq,gY (t:=aO) hi];unfold jW;rw [if_pos (by rw [hf];exact h0),hf]
theorem kP.next {n:Nat} {l:List (D aO)} {i:Nat} (h:kP n l i) (hi:i < l.length) (hf:iJ n (jd l i) (nth aO l i)=0):kP n l (i + 1):=by
 refine ⟨hi,?_⟩
 rw [<-h.eq,gY (t:=aO) hi]
 conv=>rhs;unfold jW
 rw [if_neg (by rw [hf];decide)]
 rfl
theorem kP.done {n:Nat} {l:List (D aO)} {i:Nat} (h:kP n l i) (hi:¬ i < l.length):jW n none l=0:=by
 rw [<-h.eq,List.drop_eq_nil_of_le (by omega)];rfl
theorem uU {t:Ty} {l:List (D t)} {i j:Nat} {f:D t->Bool} (hj:j < i) (hi:i<=l.length) (h:f (nth t l j)=true):(l.take i).any f=true:=by
 rw [List.any_eq_true]
 refine ⟨nth t l j,?_,h⟩
 have:(l.take i)[j]?=some (nth t l j):=by
  rw [List.getElem?_take,if_pos hj]
  unfold nth
  rw [List.getD_eq_getElem?_getD,List.getElem?_eq_getElem (by omega)];rfl
 exact List.mem_of_getElem? this
theorem sy {t:Ty} {l:List (D t)} {i:Nat} {f:D t->Bool} (h:∀j,j < i->f (nth t l j)=false):(l.take i).any f=false:=by
 rw [List.any_eq_false]
 intro x hx
 obtain ⟨j,hj,rfl⟩:=List.getElem_of_mem hx
 rw [List.length_take] at hj
 have:=h j (by omega)
 rw [List.getElem_take]
 have e:nth t l j=l[j]'(by omega):=by unfold nth;simp [show j < l.length by omega]
 rw [e] at this
 rw [this];decide
theorem contains_of {l:List (List UInt8)} {s:List UInt8} {y:Int} (h:(y = -1/\∀j,j < l.length->nth .str l j≠s)\/(0<=y/\y.toNat < l.length/\nth .str l y.toNat=s)):decide (y>=0)=l.any (· == s):=by
 rcases h with ⟨rfl,h⟩ | ⟨h1,h2,h3⟩
 ·have:=sy (t:=.str) (l:=l) (i:=l.length) (f:=(· == s)) fun j hj=>by simpa using h j hj
  rw [List.take_length] at this
  rw [this];rfl
 ·have:=uU (t:=.str) (l:=l) (i:=l.length) (f:=(· == s)) h2 (Nat.le_refl _) (by simpa using h3)
  rw [List.take_length] at this
  rw [this];simpa using h1
theorem yQ {o:D aA} (h:fS o):cB o=2:=by unfold cB;rw [if_pos h]
theorem pb {o:D aA} (h:¬ fS o) {f:Int} (hf:iI [] o.1=f) (h0:f≠0):cB o=f:=by unfold cB;rw [if_neg h,if_pos (by rw [hf];exact h0),hf]
theorem xb {o:D aA} (h:¬ fS o) (h1:iI [] o.1=0) {f:Int} (hf:jM o.2.1=f) (h0:f≠0):cB o=f:=by
 unfold cB;rw [if_neg h,if_neg (by rw [h1];decide),if_pos (by rw [hf];exact h0),hf]
theorem nS {o:D aA} (h:¬ fS o) (h1:iI [] o.1=0) (h2:jM o.2.1=0) {f:Int} (hf:hZ o.2.1.length [] o.2.2.1=f) (h0:f≠0):cB o=f:=by
 unfold cB;rw [if_neg h,if_neg (by rw [h1];decide),if_neg (by rw [h2];decide),if_pos (by rw [hf];exact h0),hf]
theorem js {o:D aA} (h:¬ fS o) (h1:iI [] o.1=0) (h2:jM o.2.1=0) (h3:hZ o.2.1.length [] o.2.2.1=0) {f:Int} (hf:jW o.2.1.length none o.2.2.2.1=f):cB o=f:=by
 unfold cB;rw [if_neg h,if_neg (by rw [h1];decide),if_neg (by rw [h2];decide),if_neg (by rw [h3];decide),hf]
end Go.Mrl

namespace Go.Mrl
open Go.Vg
def rF:aD:=[119,114,105,116,101]
def pc (x:ja × RS) (a:D bV):ja × RS:=
 if a.1=rF then ((gJ x.1 a.2.1 a.2.2.1).1,(gX x.2 a.2.1 a.2.2.1).1) else ((fR x.1 a.2.1).1,(gK x.2 a.2.1).1)
def dQ (l:List (D bV)):ja × RS:=l.foldl pc (By,([],0,()))
theorem DR (l:List (D bV)) (a:D bV):dQ (l++[a])=pc (dQ l) a:=by simp [dQ]
theorem DS {l:List (D bV)} {i:Nat} (h:i < l.length):dQ (l.take (i + 1))=pc (dQ (l.take i)) (nth bV l i):=by rw [iV (t:=bV) h,DR]
theorem OV {x:ja × RS} (a:D bV) (h:cD x.1 x.2):cD (pc x a).1 (pc x a).2:=by
 unfold pc
 split
 ·exact (h.write _ _).1
 ·exact (h.remove _).1
theorem DT:∀(l:List (D bV)) {x:ja × RS},cD x.1 x.2->cD (l.foldl pc x).1 (l.foldl pc x).2
 | [],_,h=>h
 | a :: l,_,h=>DT l (OV a h)
theorem cU (l:List (D bV)):cD (dQ l).1 (dQ l).2:=DT l cD.new
theorem yR {x:ja × RS} {a:D bV} (h:a.1=rF):pc x a=((gJ x.1 a.2.1 a.2.2.1).1,(gX x.2 a.2.1 a.2.2.1).1):=if_pos h
theorem xc {x:ja × RS} {a:D bV} (h:¬ a.1=rF):pc x a=((fR x.1 a.2.1).1,(gK x.2 a.2.1).1):=if_neg h
theorem Hb (x:ja) (s t:aD):0<=(gJ x s t).2:=by
 unfold gJ;split
 ·exact cK s
 ·split
  ·simp
  ·split <;> simp
theorem Fz (x:ja) (s:aD):0<=(fR x s).2:=by unfold fR;split <;> simp
theorem Jy (x:ja) (s:aD):0<=(bH x s).2.2:=by unfold bH;split <;> simp
theorem cD.SZ {x:ja} {r:RS} (h:cD x r):kN (pa x) (r.1.map hY)=true:=by rw [h.list];simp [kN]
theorem cD.An {x:ja} {r:RS} (h:cD x r):r.1.length<=6:=by rw [h.perm.length_eq,List.length_map];exact h.len
theorem cD.pre {x:ja} {r:RS} (h:cD x r):x.2.1.1.length<=6/\0<=x.1.1/\x.1.1<=1000000:=⟨h.len,h.lo,h.hi⟩
theorem cD.Us {x:ja} {r:RS} (h:cD x r):r.1.length<=6/\0<=r.2.1/\r.2.1<=1000000:=⟨h.An,by rw [h.now];exact h.lo,by rw [h.now];exact h.hi⟩
theorem cD.Ut {x:ja} {r:RS} (h:cD x r):x.2.1.1.length<=6/\(x.2.1.1.map cX).Nodup:=⟨h.len,h.born⟩
theorem cD.uV {x:ja} {r:RS} (h:cD x r) (s:aD):cT (aT (bH x s).2.2) (bG r.1 s).2.2=true:=by rw [<-h.read s];exact kX (Jy x s)
theorem cD.Uu {x:ja} {r:RS} (h:cD x r) (s t:aD):cT (aT (gJ x s t).2) (gX r s t).2=true:=by rw [<-(h.write s t).2];exact kX (Hb x s t)
theorem cD.Tu {x:ja} {r:RS} (h:cD x r) (s:aD):cT (aT (fR x s).2) (gK r s).2=true:=by rw [<-(h.remove s).2];exact kX (Fz x s)
end Go.Mrl

namespace Go.Mrl
open Go.Vg
end Go.Mrl

namespace Go.Mrl
open Go.Vg
def _root_.Go.Vg.K8:List UInt8->UInt8
 | c :: _=>c
 | []=>0
def np (c:UInt8):List aD->aD
 | []=>[]
 | [x]=>x
 | x :: y :: r=>x++c :: np c (y :: r)
def parts (c:UInt8):aD->List aD
 | []=>[[]]
 | b :: r=>if b=c then [] :: parts c r else match parts c r with
  | h :: t=>(b :: h) :: t
  | []=>[[b]]
theorem rG (c:UInt8):∀s:aD,parts c s≠[]
 | []=>by simp [parts]
 | b :: r=>by
  unfold parts
  split
  ·simp
  ·split <;> simp
theorem lZ {c b:UInt8} {r:aD} (h:b≠c):∃x t,parts c r=x :: t/\parts c (b :: r)=(b :: x) :: t:=by
 cases hp:parts c r with
 | nil=>exact absurd hp (rG c r)
 | cons x t=>
  refine ⟨x,t,rfl,?_⟩
  conv=>lhs;unfold parts
  rw [if_neg h,hp]
theorem od {c:UInt8} {r:aD}:parts c (c :: r) = [] :: parts c r:=by
 conv=>lhs;unfold parts
 rw [if_pos rfl]
theorem kQ {c:UInt8}:∀{x:aD},c∉x->parts c x = [x]
 | [],_=>rfl
 | b :: r,h=>by
  obtain ⟨x,t,h1,h2⟩:=lZ (c:=c) (b:=b) (r:=r) (fun e=>h (by simp [e]))
  rw [kQ (x:=r) (fun e=>h (by simp [e]))] at h1
  cases h1
  exact h2
theorem gw {c:UInt8}:∀{x:aD} {s:aD},c∉x->parts c (x++c :: s)=x :: parts c s
 | [],s,_=>od
 | b :: r,s,h=>by
  obtain ⟨x,t,h1,h2⟩:=lZ (c:=c) (b:=b) (r:=r++c :: s) (fun e=>h (by simp [e]))
  rw [gw (x:=r) (fun e=>h (by simp [e]))] at h1
  cases h1
  exact h2
theorem sY {c:UInt8}:∀{L:List aD},L≠[]->(∀y∈L,c∉y)->parts c (np c L)=L
 | [],h,_=>absurd rfl h
 | [x],_,h=>kQ (h x (by simp))
 | x :: y :: r,_,h=>by
  show parts c (x++c :: np c (y :: r))=_
  rw [gw (h x (by simp)),sY (by simp) fun z hz=>h z (List.mem_cons_of_mem _ hz)]
theorem qm (c:UInt8):∀(s:aD),(parts c s).length<=s.length + 1
 | []=>by simp [parts]
 | b :: r=>by
  by_cases h:b=c
  ·subst h;rw [od];have:=qm b r;simp;omega
  ·obtain ⟨x,t,h1,h2⟩:=lZ (c:=c) (b:=b) (r:=r) h
   have:=qm c r
   rw [h1] at this
   rw [h2];simp at this ⊢;omega
theorem lR (c:UInt8):∀(s:aD),∀y∈parts c s,y.length<=s.length
 | [],y,h=>by simp [parts] at h;simp [h]
 | b :: r,y,h=>by
  by_cases hb:b=c
  ·subst hb;rw [od] at h
   rcases List.mem_cons.1 h with rfl | h
   ·simp
   ·have:=lR b r y h;simp;omega
  ·obtain ⟨x,t,h1,h2⟩:=lZ (c:=c) (b:=b) (r:=r) hb
   rw [h2] at h
   rcases List.mem_cons.1 h with rfl | h
   ·have:=lR c r x (by rw [h1];simp);simp;omega
   ·have:=lR c r y (by rw [h1];simp [h]);simp;omega
theorem Hc {b c:UInt8} {l:aD} (h:b≠c):Lib.index (b :: l) [c]=if Lib.index l [c] == -1 then -1 else Lib.index l [c] + 1:=by
 rw [Lib.index];simp [List.isPrefixOf,Ne.symm h]
theorem Hd {c:UInt8} {l:aD}:Lib.index (c :: l) [c]=0:=by
 rw [Lib.index];simp [List.isPrefixOf]
theorem rH (c:UInt8):∀s:aD,Lib.splitK [c] 0 (s.count c) s=parts c s
 | []=>rfl
 | b :: l=>by
  by_cases h:b=c
  ·subst h
   rw [od,List.count_cons_self,Lib.splitK,Hd,if_neg (by decide),<-rH b l]
   simp
  ·obtain ⟨x,t,h1,h2⟩:=lZ (c:=c) (b:=b) (r:=l) h
   rw [h2,List.count_cons_of_ne h]
   rw [<-rH c l] at h1
   cases hk:l.count c with
   | zero=>
    rw [hk] at h1
    simp only [Lib.splitK] at h1 ⊢
    cases h1
    rfl
   | succ k=>
    rw [hk] at h1
    have hi:Lib.index l [c]≠-1:=by
     intro e
     have:=Lib.count_miss (s:=l) (sub:=[c]) e
     rw [Lib.count_one] at this
     omega
    have hge:=Lib.index_ge l [c]
    rw [Lib.splitK,if_neg (by simpa using hi)] at h1
    obtain ⟨i,e⟩:∃i:Nat,Lib.index l [c]=i:=⟨(Lib.index l [c]).toNat,by omega⟩
    have e2:Lib.index (b :: l) [c]=((i + 1:Nat):Int):=by rw [Hc h,if_neg (by simpa using hi),e];rfl
    rw [Lib.splitK,e2,if_neg (by simp;omega)]
    rw [e] at h1
    simp only [Int.toNat_natCast,Nat.add_zero,List.length_singleton,List.take_succ_cons,List.drop_succ_cons,List.cons.injEq] at h1 ⊢
    exact ⟨⟨trivial,h1.1⟩,h1.2⟩
def la (c:UInt8) (L:List aD):aD:=L.flatMap (· ++ [c])
theorem xe (c:UInt8) (x:aD) (L:List aD):la c (x :: L)=x++c :: la c L:=by simp [la]
theorem DU (c:UInt8) (L:List aD) (x:aD):la c (L++[x])=la c L++x++[c]:=by simp [la]
theorem DV {c:UInt8}:∀{L:List aD},L≠[]->la c L=np c L++[c]
 | [],h=>absurd rfl h
 | [x],_=>by simp [la,np]
 | x :: y :: r,_=>by
  rw [xe,DV (L:=y :: r) (by simp)];simp [np]
theorem uW {c:UInt8}:∀{L:List aD} {x:aD},(∀y∈L,c∉y)->c∉x->parts c (la c L++x)=L++[x]
 | [],x,_,h=>by simp [la,kQ h]
 | y :: r,x,h,hx=>by
  rw [xe,List.append_assoc,List.cons_append,gw (h y (by simp)),uW (fun z hz=>h z (List.mem_cons_of_mem _ hz)) hx];simp
theorem tO (x:aD) (c:UInt8):Lib.trimSuffix (x++[c]) [c]=x:=by
 have h:Lib.hasSuffix (x++[c]) [c]=true:=by unfold Lib.hasSuffix;simp [List.isSuffixOf_iff_suffix]
 unfold Lib.trimSuffix
 rw [if_pos h];simp
theorem Mx {c:UInt8} {L:List aD} (h:L≠[]) (hf:∀y∈L,c∉y):parts c (Lib.trimSuffix (la c L) [c])=L:=by
 rw [DV h,tO,sY h hf]
end Go.Mrl

namespace Go.Mrl
open Go.Vg
def jx (c:UInt8):Bool:=decide (48<=c.toNat/\c.toNat<=57)
theorem oJ {k:Nat} (h:k < 10):(UInt8.ofNat (48 + k)).toNat=48 + k:=by
 rw [UInt8.toNat_ofNat'];omega
theorem kR:∀(u:Nat),∀c∈Lib.decDigits u,48<=c.toNat/\c.toNat<=57:=by
 intro u
 induction u using Nat.strongRecOn with
 | _ u ih=>
  intro c hc
  by_cases h:u < 10
  ·rw [Lib.decDigits,dif_pos h] at hc
   simp only [List.mem_singleton] at hc
   rw [hc,oJ h];omega
  ·rw [Lib.decDigits,dif_neg h] at hc
   rcases List.mem_append.1 hc with hc | hc
   ·exact ih _ (by omega) c hc
   ·simp only [List.mem_singleton] at hc
    rw [hc,oJ (Nat.mod_lt _ (by decide))];omega
theorem mK (u:Nat):Lib.decDigits u≠[]:=by
 rw [Lib.decDigits];split <;> simp
theorem jJ:∀(k u:Nat),u < 10 ^ (k + 1)->(Lib.decDigits u).length<=k + 1
 | 0,u,h=>by rw [Lib.decDigits,dif_pos (by simpa using h)];simp
 | k + 1,u,h=>by
  rw [Lib.decDigits]
  split
  ·simp
  ·have:=jJ k (u / 10) (by rw [Nat.pow_succ] at h;omega)
   simp;exact this
def kA (l:aD):Nat:=l.foldl (fun n c=>10 * n + (c.toNat - 48)) 0
theorem xf (l:aD) (c:UInt8):kA (l++[c])=10 * kA l + (c.toNat - 48):=by simp [kA]
theorem He:∀u:Nat,kA (Lib.decDigits u)=u:=by
 intro u
 induction u using Nat.strongRecOn with
 | _ u ih=>
  by_cases h:u < 10
  ·rw [Lib.decDigits,dif_pos h]
   show 10 * 0 + ((UInt8.ofNat (48 + u)).toNat - 48)=u
   rw [oJ h];omega
  ·rw [Lib.decDigits,dif_neg h,xf,ih _ (by omega),oJ (Nat.mod_lt _ (by decide))];omega
theorem K9:∀(k:Nat) (l:aD),l.length=k->(∀c∈l,48<=c.toNat/\c.toNat<=57)->kA l < 10 ^ k
 | 0,l,hk,_=>by rw [List.eq_nil_of_length_eq_zero hk];decide
 | k + 1,l,hk,h=>by
  have hne:l≠[]:=by rintro rfl;simp at hk
  have e:=List.dropLast_concat_getLast hne
  rw [<-e] at h ⊢
  have h1:=K9 k l.dropLast (by simp;omega) fun x hx=>h x (by simp [hx])
  have h2:=h (l.getLast hne) (by simp)
  rw [xf,Nat.pow_succ];omega
theorem DW:∀(l:aD) (c:UInt8) (a v:Nat),Lib.parseUint10 a l = .ok v->Lib.parseUint10 a (l++[c])=Lib.parseUint10 v [c]
 | [],c,a,v,h=>by simp [Lib.parseUint10] at h;rw [h];rfl
 | b :: l,c,a,v,h=>by
  rw [List.cons_append,Lib.parseUint10]
  rw [Lib.parseUint10] at h
  split at h
  ·rename_i hb
   rw [if_pos hb]
   split at h
   ·cases h
   ·rename_i h1
    rw [if_neg h1]
    split at h
    ·cases h
    ·rename_i h2
     rw [if_neg h2]
     exact DW l c _ v h
  ·cases h
theorem Hf {v d:Nat} (hd:d < 10) (h:10 * v + d < 18446744073709551616):Lib.parseUint10 v [UInt8.ofNat (48 + d)] = .ok (10 * v + d):=by
 unfold Lib.parseUint10
 rw [oJ hd,if_pos (by omega),if_neg (by omega),if_neg (by omega)]
 unfold Lib.parseUint10
 congr 1;omega
theorem Ro:∀u:Nat,u < 18446744073709551616->Lib.parseUint10 0 (Lib.decDigits u) = .ok u:=by
 intro u
 induction u using Nat.strongRecOn with
 | _ u ih=>
  intro hu
  by_cases h:u < 10
  ·rw [Lib.decDigits,dif_pos h]
   have:=Hf (v:=0) (d:=u) h (by omega)
   simpa using this
  ·rw [Lib.decDigits,dif_neg h,DW _ _ _ _ (ih _ (by omega) (by omega)),Hf (Nat.mod_lt _ (by decide)) (by omega)]
   congr 1;omega
theorem La {u:Nat} (hu:u < 18446744073709551616):Lib.parseMag (Lib.decDigits u) = .ok u:=by
 unfold Lib.parseMag
 rw [if_neg (mK u),Ro u hu]
theorem OW {n:Int} (h0 : -9223372036854775808<=n) (h1:n<=9223372036854775807):Lib.atoiAll (Lib.itoa n) = .ok n:=by
 by_cases hn:n < 0
 ·have hm:=La (u:=n.natAbs) (by omega)
  simp only [Lib.itoa,if_pos hn,Lib.atoiAll]
  rw [if_pos (Or.inr (by decide)),hm]
  simp only
  rw [if_neg (by simp),if_neg (by simp;omega)]
  simp;omega
 ·have hm:=La (u:=n.toNat) (by omega)
  simp only [Lib.itoa,if_neg hn,Lib.atoiAll]
  cases hd:Lib.decDigits n.toNat with
  | nil=>exact absurd hd (mK _)
  | cons c r=>
   have hc:=kR n.toNat c (by rw [hd];simp)
   rw [hd] at hm
   simp only
   rw [if_neg (by omega),hm]
   simp only
   rw [if_neg (by omega),if_neg (by omega),if_neg (by omega)]
   congr 1;omega
def dP (s:List UInt8):Int × bC:=match Lib.atoiAll s with
 | .ok n=>(n, .nil)
 | Lib.NumEnd.syntax=>(0, .other)
 | .range=>(Lib.atoiSat s, .other)
def dB (s:aD):Option Int:=match Lib.atoiAll s with
 | .ok n=>if Lib.itoa n=s then some n else none
 | _=>none
theorem OX {n:Int} (h0 : -9223372036854775808<=n) (h1:n<=9223372036854775807):dB (Lib.itoa n)=some n:=by
 unfold dB;rw [OW h0 h1];simp
theorem qn {s:aD}:(dB s).isNone=(!(dP s).2.isNil || !decide (Lib.itoa (dP s).1=s)):=by
 unfold dB dP
 cases Lib.atoiAll s with
 | ok v=>simp only [bC.isNil];by_cases h:Lib.itoa v=s <;> simp [h]
 | range=>rfl
 | _=>rfl
def dL (s:aD):aD:=match s with
 | 45 :: r=>r
 | _=>s
def lu (s:aD):Option Int:=
 if (dL s).length < 1\/(dL s).length > 18\/((dL s).head?=some 48/\s.length > 1) then none
 else if (dL s).all jx=true then some (if (dL s).length < s.length then -(kA (dL s):Int) else (kA (dL s):Int)) else none
theorem Hg {u:Nat} (h:(Lib.decDigits u).head?=some 48):u=0:=by
 revert h
 induction u using Nat.strongRecOn with
 | _ u ih=>
  intro h
  by_cases hu:u < 10
  ·rw [Lib.decDigits,dif_pos hu] at h
   simp only [List.head?_cons,Option.some.injEq] at h
   have:=congrArg UInt8.toNat h
   rw [oJ hu] at this
   have h48:(48:UInt8).toNat=48:=rfl
   omega
  ·rw [Lib.decDigits,dif_neg hu] at h
   have hne:=mK (u / 10)
   cases hd:Lib.decDigits (u / 10) with
   | nil=>exact absurd hd hne
   | cons c r=>
    rw [hd] at h
    simp only [List.cons_append,List.head?_cons] at h
    have:=ih (u / 10) (by omega) (by rw [hd];exact h)
    omega
theorem Tv {s:aD} (h:∀c∈s,48<=c.toNat/\c.toNat<=57):dL s=s:=by
 unfold dL
 split
 ·rename_i r
  have:=h 45 (by simp)
  have h45:(45:UInt8).toNat=45:=rfl
  omega
 ·rfl
theorem xg {n:Int} (h0 : -999999999999999999<=n) (h1:n<=999999999999999999):lu (Lib.itoa n)=some n:=by
 have hall:∀u,(Lib.decDigits u).all jx=true:=fun u=>by
  rw [List.all_eq_true]
  intro c hc
  have:=kR u c hc
  unfold jx;simp [this]
 by_cases hn:n < 0
 ·have hm:dL (Lib.itoa n)=Lib.decDigits n.natAbs:=by unfold Lib.itoa;rw [if_pos hn];rfl
  have hl:(Lib.itoa n).length=(Lib.decDigits n.natAbs).length + 1:=by unfold Lib.itoa;rw [if_pos hn];rfl
  have h3:=jJ 17 n.natAbs (by omega)
  have h4:=List.length_pos_iff.2 (mK n.natAbs)
  unfold lu
  rw [hm,if_neg (by
   rintro (h | h | ⟨h,_⟩)
   ·omega
   ·omega
   ·have:=Hg h;omega),if_pos (hall _),if_pos (by omega),He]
  congr 1;omega
 ·have hi:Lib.itoa n=Lib.decDigits n.toNat:=by unfold Lib.itoa;rw [if_neg hn]
  have hm:dL (Lib.itoa n)=Lib.decDigits n.toNat:=by rw [hi];exact Tv (kR _)
  have h3:=jJ 17 n.toNat (by omega)
  have h4:=List.length_pos_iff.2 (mK n.toNat)
  unfold lu
  rw [hm,hi,if_neg (by
   rintro (h | h | ⟨h,h'⟩)
   ·omega
   ·omega
   ·have h0:=Hg h
    rw [h0] at h'
    simp [Lib.decDigits] at h'),if_pos (hall _),if_neg (by omega),He]
  congr 1;omega
theorem DX {n:Int} {c:UInt8} (h:c.toNat<=44):c∉Lib.itoa n:=by
 intro hc
 have h45:(45:UInt8).toNat=45:=rfl
 unfold Lib.itoa at hc
 split at hc
 ·rcases List.mem_cons.1 hc with rfl | hc
  ·omega
  ·have:=kR _ c hc;omega
 ·have:=kR _ c hc;omega
def mD (n:Int):Nat:=2 * n.natAbs + (if n < 0 then 1 else 0)
theorem Uv {n:Int} (h:n < 0):mD (-n) < mD n:=by unfold mD;rw [if_neg (by omega),if_pos h];omega
theorem Uw {n:Int} (h:10<=n):mD (n / 10) < mD n:=by unfold mD;rw [if_neg (by omega),if_neg (by omega)];omega
theorem xh {n:Int} (h:n < 0):Lib.itoa n = [45]++Lib.itoa (-n):=by
 unfold Lib.itoa;rw [if_pos h,if_neg (by omega)];congr 2;omega
theorem oy {n:Int} (h:0<=n) (h':n < 10):Lib.itoa n = [UInt8.ofNat (48 + n).toNat]:=by
 unfold Lib.itoa;rw [if_neg (by omega),Lib.decDigits,dif_pos (by omega)];congr 2;omega
theorem xi {n:Int} (h:10<=n):Lib.itoa n=Lib.itoa (n / 10)++[UInt8.ofNat (48 + n % 10).toNat]:=by
 unfold Lib.itoa;rw [if_neg (by omega),if_neg (by omega)]
 conv=>lhs;rw [Lib.decDigits,dif_neg (by omega)]
 rw [show n.toNat / 10=(n / 10).toNat by omega,show 48 + n.toNat % 10=(48 + n % 10).toNat by omega]
theorem Rp:Lib.itoa (-9223372036854775808) = [45,57,50,50,51,51,55,50,48,51,54,56,53,52,55,55,53,56,48,56]:=by
 rw [xh (by decide)]
 repeat rw [xi (by decide)]
 rw [oy (by decide) (by decide)]
 decide
theorem Lb {n:Int} (h0 : -9223372036854775808<=n) (h1:n<=9223372036854775807):(Lib.itoa n).length<=21:=by
 unfold Lib.itoa
 split
 ·rw [List.length_cons]
  have:=jJ 19 n.natAbs (by omega)
  omega
 ·have:=jJ 19 n.toNat (by omega)
  omega
theorem CW {n:Int} (h0:0<=n) (h1:n<=255):bytesOf [IntKind.wrap IntKind.u8 n] = [UInt8.ofNat n.toNat]:=by
 have:IntKind.wrap IntKind.u8 n=n:=by simp [IntKind.wrap,IntKind.signed,IntKind.bits];omega
 rw [this];rfl
end Go.Mrl

namespace Go.Mrl
open Go.Vg
theorem mL {f:Int} (h0:0<=f) (h:(aT f).isNil=false):f > 0:=by
 have:¬ f=0:=fun e=>by rw [bJ.2 e] at h;cases h
 omega
theorem dM {f:Int} (h:(aT f).isNil=true):f<=0:=by
 have:=bJ.1 h;omega
theorem DY {t:Ty} {l:List (D t)} {i j:Nat} (h:j < i):nth t (List.drop 0 (List.take i l)) j=nth t l j:=by
 rw [List.drop_zero,GU h]
theorem DZ {α:Type} {l:List α} {i:Nat} (h:i<=l.length):(List.drop 0 (List.take i l)).length=i:=by
 rw [List.drop_zero,List.length_take];omega
def fM (b:Bool):List UInt8:=if b=true then [119,101,97,107,32] else []
def uX (s:aD):aD:=[110,101,101,100,32]++s++[10]
def uY (n:Int):aD:=[119,111,114,100,32]++Lib.itoa n++[10]
def xj (y:D aN):aD:=fM y.2.2.1++[115,121,109,98,111,108,32]++y.1++[32]++Lib.itoa y.2.1++[10]
def uZ (t:D aO):aD:=
 if t.2.1=1 then [98,97,115,101,32]++Lib.itoa t.1++[32]++Lib.itoa t.2.2.1++[10]
 else if t.2.1=2 then fM t.2.2.2.2.1++[119,104,111,108,101,32]++Lib.itoa t.1++[32]++Lib.itoa t.2.2.1++[32]++t.2.2.2.1++[10]
 else fM t.2.2.2.2.1++[110,101,97,114,32]++Lib.itoa t.1++[32]++Lib.itoa t.2.2.1++[32]++t.2.2.2.1++[10]
def kB (o:D aA) (i:Nat):aD:=(o.1.take i).flatMap uX
def jX (o:D aA) (i:Nat):aD:=kB o o.1.length++(o.2.1.take i).flatMap uY
def iy (o:D aA) (i:Nat):aD:=jX o o.2.1.length++(o.2.2.1.take i).flatMap xj
def eK (o:D aA) (i:Nat):aD:=iy o o.2.2.1.length++(o.2.2.2.1.take i).flatMap uZ
def eU (o:D aA):aD:=eK o o.2.2.2.1.length
def ku (o:D aA):aD × bC:=if cB o≠0 then ([],aT (cB o)) else if (eU o).length > 1200 then ([], .no 2) else (eU o, .nil)
theorem D0 {o:D aA} {i:Nat} (h:i < o.1.length):kB o (i + 1)=kB o i++uX (nth .str o.1 i):=by
 unfold kB;rw [iK (t:=.str) h];simp
theorem D1 {o:D aA} {i:Nat} (h:i < o.2.1.length):jX o (i + 1)=jX o i++uY (nth (.int .i64) o.2.1 i):=by
 unfold jX;rw [iK (t:=.int .i64) h];simp
theorem xk {o:D aA} {i:Nat} (h:i < o.2.2.1.length):iy o (i + 1)=iy o i++xj (nth aN o.2.2.1 i):=by
 unfold iy;rw [iK (t:=aN) h];simp
theorem xl {o:D aA} {i:Nat} (h:i < o.2.2.2.1.length):eK o (i + 1)=eK o i++uZ (nth aO o.2.2.2.1 i):=by
 unfold eK;rw [iK (t:=aO) h];simp
theorem D2 (o:D aA):jX o 0=kB o o.1.length:=by unfold jX;simp
theorem D3 (o:D aA):iy o 0=jX o o.2.1.length:=by unfold iy;simp
theorem D4 (o:D aA):eK o 0=iy o o.2.2.1.length:=by unfold eK;simp
def Nm (s:aD):Prop:=s≠[]/\s.length<=8/\∀c∈s,c≠10/\c≠32
def iO (a b x:Int):Prop:=a<=x/\x<=b
structure BD (t:D aO):Prop where
 a:iO 0 39 t.1
 w:iO (-2147483648) 2147483647 t.2.2.1
 k:t.2.1=1\/t.2.1=2\/t.2.1=3
 base:t.2.1=1->t.2.2.2.1 = []/\t.2.2.2.2.1=false
 nm:t.2.1≠1->Nm t.2.2.2.1
structure jY (o:D aA):Prop where
 n4:o.1.length<=4
 w1:1<=o.2.1.length
 S0:o.2.1.length<=40
 s8:o.2.2.1.length<=8
 t6:o.2.2.2.1.length<=6
 FU:∀s∈o.1,Nm s
 words:∀n∈o.2.1,iO (-2147483648) 2147483647 n
 syms:∀y∈o.2.2.1,Nm y.1/\iO 0 39 y.2.1
 My:∀t∈o.2.2.2.1,BD t
end Go.Mrl

namespace Go.Mrl
open Go.Vg
theorem yS:∀(l p:List aD),iI p l=0->∀s∈l,aG s=0
 | [],_,_,s,h=>absurd h (by simp)
 | x :: r,p,h,s,hs=>by
  have hx:=cK x
  unfold iI at h
  split at h
  ·omega
  ·split at h
   ·cases h
   ·rcases List.mem_cons.1 hs with rfl | hs
    ·omega
    ·exact yS r _ h s hs
theorem yT:∀(l:List Int),jM l=0->∀n∈l,dJ n=true
 | [],_,s,h=>absurd h (by simp)
 | x :: r,h,s,hs=>by
  unfold jM at h
  split at h
  ·rename_i hx
   rcases List.mem_cons.1 hs with rfl | hs
   ·exact hx
   ·exact yT r h s hs
  ·cases h
theorem BE (n:Nat):∀(l p:List (D aN)),hZ n p l=0->∀y∈l,aG y.1=0/\iO 0 (n - 1) y.2.1
 | [],_,_,s,h=>absurd h (by simp)
 | x :: r,p,h,s,hs=>by
  have hx:=cK x.1
  unfold hZ at h
  split at h
  ·omega
  ·split at h
   ·cases h
   ·rename_i h2
    split at h
    ·cases h
    ·rcases List.mem_cons.1 hs with rfl | hs
     ·exact ⟨by omega,Int.not_lt.1 fun e=>h2 (.inl e),Int.le_sub_one_of_lt (Int.not_le.1 fun e=>h2 (.inr e))⟩
     ·exact BE n r _ h s hs
theorem D5 {n:Nat} {p:Option Int} {t:D aO} (h:iJ n p t=0) :
  iO 0 (n - 1) t.1/\dJ t.2.2.1=true/\iO 1 3 t.2.1/\(t.2.1=1->t.2.2.2.1 = []/\t.2.2.2.2.1=false)/\(t.2.1≠1->aG t.2.2.2.1=0):=by
 unfold iJ at h
 split at h
 ·cases h
 ·rename_i h1
  split at h
  ·cases h
  ·rename_i h2
   refine ⟨⟨Int.not_lt.1 fun e=>h1 (.inl e),Int.le_sub_one_of_lt (Int.not_le.1 fun e=>h1 (.inr (.inl e)))⟩,?_,⟨Int.not_lt.1 fun e=>h2 (.inl e),Int.not_lt.1 fun e=>h2 (.inr (.inl e))⟩,?_,?_⟩
   ·cases hw:dJ t.2.2.1 with
    | true=>rfl
    | false=>exact absurd (.inr (.inr hw)) h1
   ·intro e
    rw [if_pos e] at h
    split at h
    ·cases h
    ·rename_i h3
     refine ⟨Classical.byContradiction fun e=>h3 (.inl e),?_⟩
     cases hb:t.2.2.2.2.1 with
     | false=>rfl
     | true=>exact absurd (.inr hb) h3
   ·intro e
    rw [if_neg e] at h
    exact h
theorem u3 (n:Nat):∀(l:List (D aO)) (p:Option Int),jW n p l=0->∀t∈l,∃p,iJ n p t=0
 | [],_,_,s,h=>absurd h (by simp)
 | x :: r,p,h,s,hs=>by
  unfold jW at h
  split at h
  ·rename_i h0;exact absurd h h0
  ·rename_i h0
   rcases List.mem_cons.1 hs with rfl | hs
   ·exact ⟨p,Classical.byContradiction h0⟩
   ·exact u3 n r _ h s hs
theorem BF {s:aD} (h:aG s=0):Nm s:=by
 unfold aG at h
 split at h
 ·cases h
 ·rename_i hl
  split at h
  ·cases h
  ·rename_i hb
   refine ⟨by rintro rfl;simp at hl,by omega,fun c hc => ?_⟩
   obtain ⟨i,hi,rfl⟩:=List.getElem_of_mem hc
   have hn:jc i (cF s i)=false:=by
    unfold tG at hb
    rw [Bool.not_eq_true,List.any_eq_false] at hb
    have:=hb i (by simpa using hi)
    simpa using this
   have he:cF s i=s[i]:=by unfold cF;simp [hi]
   rw [he] at hn
   constructor
   ·intro e;rw [e] at hn;unfold jc small other at hn;simp at hn
   ·intro e;rw [e] at hn;unfold jc small other at hn;simp at hn
theorem three {x:Int} (h:1<=x) (h':x<=3):x=1\/x=2\/x=3:=by omega
theorem gC {o:D aA} (h:cB o=0):jY o:=by
 unfold cB at h
 split at h
 ·cases h
 ·rename_i hm
  split at h
  ·rename_i h1;exact absurd h h1
  ·rename_i h1
   split at h
   ·rename_i h2;exact absurd h h2
   ·rename_i h2
    split at h
    ·rename_i h3;exact absurd h h3
    ·rename_i h3
     have h1:=Classical.byContradiction h1
     have h2:=Classical.byContradiction h2
     have h3:=Classical.byContradiction h3
     unfold fS at hm
     have hw:o.2.1.length<=40:=Nat.not_lt.1 fun e=>hm (.inr (.inr (.inl e)))
     refine ⟨Nat.not_lt.1 fun e=>hm (.inl e),Nat.not_lt.1 fun e=>hm (.inr (.inl e)),hw,Nat.not_lt.1 fun e=>hm (.inr (.inr (.inr (.inl e)))),Nat.not_lt.1 fun e=>hm (.inr (.inr (.inr (.inr e)))),
      fun s hs=>BF (yS _ _ h1 s hs),fun n hn => ?_,fun y hy => ?_,fun t ht => ?_⟩
     ·have:=yT _ h2 n hn
      unfold dJ at this
      simp only [Bool.and_eq_true,decide_eq_true_eq] at this
      exact this
     ·obtain ⟨a,b,c⟩:=BE _ _ _ h3 y hy
      exact ⟨BF a,b,Int.le_trans c (by omega)⟩
     ·obtain ⟨p,hp⟩:=u3 _ _ _ h t ht
      obtain ⟨⟨a,b⟩,c,⟨d,e⟩,f,g⟩:=D5 hp
      unfold dJ at c
      simp only [Bool.and_eq_true,decide_eq_true_eq] at c
      exact ⟨⟨a,Int.le_trans b (by omega)⟩,c,three d e,f,fun e=>BF (g e)⟩
theorem dN {a b n:Int} (h:iO a b n) (ha : -999999999999999999<=a) (hb:b<=999999999999999999):(Lib.itoa n).length<=19:=by
 obtain ⟨h0,h1⟩:=h
 unfold Lib.itoa
 split
 ·rw [List.length_cons]
  have:=jJ 17 n.natAbs (by omega)
  omega
 ·have:=jJ 17 n.toNat (by omega)
  omega
theorem sz (b:Bool):(fM b).length<=5:=by cases b <;> decide
theorem OY {s:aD} (h:Nm s):(uX s).length<=64:=by have:=h.2.1;simp [uX];omega
theorem OZ {n:Int} (h:iO (-2147483648) 2147483647 n):(uY n).length<=64:=by have:=dN h (by decide) (by decide);simp [uY];omega
theorem Rq {y:D aN} (h:Nm y.1/\iO 0 39 y.2.1):(xj y).length<=64:=by
 have h1:=dN h.2 (by decide) (by decide)
 have h2:=sz y.2.2.1
 have h3:=h.1.2.1
 simp [xj];omega
theorem Rr {t:D aO} (h:BD t):(uZ t).length<=64:=by
 have h1:=dN h.a (by decide) (by decide)
 have h4:=dN h.w (by decide) (by decide)
 have h2:=sz t.2.2.2.2.1
 unfold uZ
 split
 ·simp;omega
 ·rename_i hk
  have h3:=(h.nm hk).2.1
  split
  ·simp;omega
  ·simp;omega
theorem oz {α:Type} {f:α->aD}:∀{l:List α},(∀x∈l,(f x).length<=64)->(l.flatMap f).length<=64 * l.length
 | [],_=>by simp
 | x :: r,h=>by
  have h1:=h x (by simp)
  have h2:=oz (f:=f) (l:=r) fun y hy=>h y (List.mem_cons_of_mem _ hy)
  rw [List.flatMap_cons,List.length_append,List.length_cons];omega
theorem jY.Hh {o:D aA} (h:jY o) (i:Nat):(kB o i).length<=1000:=by
 have:=oz (f:=uX) (l:=o.1.take i) fun s hs=>OY (h.FU s (List.mem_of_mem_take hs))
 have h2:=h.n4
 unfold kB;simp only [List.length_take] at this;omega
theorem jY.CX {o:D aA} (h:jY o) (i:Nat):(jX o i).length<=4000:=by
 have h0:=h.Hh o.1.length
 have:=oz (f:=uY) (l:=o.2.1.take i) fun s hs=>OZ (h.words s (List.mem_of_mem_take hs))
 have h2:=h.S0
 unfold jX;rw [List.length_append];simp only [List.length_take] at this;omega
theorem jY.Ux {o:D aA} (h:jY o) (i:Nat):(iy o i).length<=5000:=by
 have h0:=h.CX o.2.1.length
 have:=oz (f:=xj) (l:=o.2.2.1.take i) fun s hs=>Rq (h.syms s (List.mem_of_mem_take hs))
 have h2:=h.s8
 unfold iy;rw [List.length_append];simp only [List.length_take] at this;omega
theorem jY.Vo {o:D aA} (h:jY o) (i:Nat):(eK o i).length<=6000:=by
 have h0:=h.Ux o.2.2.1.length
 have:=oz (f:=uZ) (l:=o.2.2.2.1.take i) fun s hs=>Rr (h.My s (List.mem_of_mem_take hs))
 have h2:=h.t6
 unfold eK;rw [List.length_append];simp only [List.length_take] at this;omega
theorem jY.rI {o:D aA} (h:jY o) {i:Nat} (hi:i < o.1.length):Nm (nth .str o.1 i):=h.FU _ (ie (t:=.str) hi)
theorem jY.word {o:D aA} (h:jY o) {i:Nat} (hi:i < o.2.1.length):iO (-2147483648) 2147483647 (nth (.int .i64) o.2.1 i):=h.words _ (ie (t:=.int .i64) hi)
theorem jY.sym {o:D aA} (h:jY o) {i:Nat} (hi:i < o.2.2.1.length):Nm (nth aN o.2.2.1 i).1/\iO 0 39 (nth aN o.2.2.1 i).2.1:=h.syms _ (ie (t:=aN) hi)
theorem jY.tie {o:D aA} (h:jY o) {i:Nat} (hi:i < o.2.2.2.1.length):BD (nth aO o.2.2.2.1 i):=h.My _ (ie (t:=aO) hi)
theorem Jz (a b:aD):dH a++dH b=dH (a++b):=by simp [dH]
theorem xm {o:D aA} (h:jY o) {i:Nat} (hi:i < o.1.length):(nth .str o.1 i).length<=8/\(kB o i).length<=1000:=⟨(h.rI hi).2.1,h.Hh i⟩
theorem xn {o:D aA} (h:jY o) {i:Nat} (hi:i < o.2.1.length):(Lib.itoa (nth (.int .i64) o.2.1 i)).length<=19/\(jX o i).length<=4000:=
 ⟨dN (h.word hi) (by decide) (by decide),h.CX i⟩
theorem Ao {o:D aA} (h:jY o) {i:Nat} (hi:i < o.2.2.1.length) :
  (nth aN o.2.2.1 i).1.length<=8/\(Lib.itoa (nth aN o.2.2.1 i).2.1).length<=19/\(fM (nth aN o.2.2.1 i).2.2.1).length<=5/\(iy o i).length<=5000:=
 ⟨(h.sym hi).1.2.1,dN (h.sym hi).2 (by decide) (by decide),sz _,h.Ux i⟩
theorem Ap {o:D aA} (h:jY o) {i:Nat} (hi:i < o.2.2.2.1.length) :
  (nth aO o.2.2.2.1 i).2.2.2.1.length<=8/\(Lib.itoa (nth aO o.2.2.2.1 i).1).length<=19/\(Lib.itoa (nth aO o.2.2.2.1 i).2.2.1).length<=19/\(fM (nth aO o.2.2.2.1 i).2.2.2.2.1).length<=5/\(eK o i).length<=6000:=by
 have ht:=h.tie hi
 refine ⟨?_,dN ht.a (by decide) (by decide),dN ht.w (by decide) (by decide),sz _,h.Vo i⟩
 by_cases hk:(nth aO o.2.2.2.1 i).2.1=1
 ·rw [(ht.base hk).1];decide
 ·exact (ht.nm hk).2.1
theorem pJ {p p' q:aD} {a b:Int} (h:p'=p++q):(((dH p++dH q,a,b,()):D kV))=((dH p',a,b,()):D kV):=by rw [h,Jz]
theorem Aq {p p':aD} {a b:Int} (h:p=p'):((dH p,a,b,()):D kV)=((dH p',a,b,()):D kV):=by rw [h]
theorem BG {o:D aA} {i:Nat} (h:i < o.2.2.2.1.length) (hk:(nth aO o.2.2.2.1 i).2.1=1) :
  eK o (i + 1)=eK o i++([98,97,115,101,32]++Lib.itoa (nth aO o.2.2.2.1 i).1++[32]++Lib.itoa (nth aO o.2.2.2.1 i).2.2.1++[10]):=by
 rw [xl h];unfold uZ;rw [if_pos hk]
theorem u4 {o:D aA} {i:Nat} (h:i < o.2.2.2.1.length) (hk:¬ (nth aO o.2.2.2.1 i).2.1=1) (hk2:(nth aO o.2.2.2.1 i).2.1=2) :
  eK o (i + 1)=eK o i++(fM (nth aO o.2.2.2.1 i).2.2.2.2.1++[119,104,111,108,101,32]++Lib.itoa (nth aO o.2.2.2.1 i).1++[32]++Lib.itoa (nth aO o.2.2.2.1 i).2.2.1++[32]++(nth aO o.2.2.2.1 i).2.2.2.1++[10]):=by
 rw [xl h];unfold uZ;rw [if_neg hk,if_pos hk2]
theorem u5 {o:D aA} {i:Nat} (h:i < o.2.2.2.1.length) (hk:¬ (nth aO o.2.2.2.1 i).2.1=1) (hk2:¬ (nth aO o.2.2.2.1 i).2.1=2) :
  eK o (i + 1)=eK o i++(fM (nth aO o.2.2.2.1 i).2.2.2.2.1++[110,101,97,114,32]++Lib.itoa (nth aO o.2.2.2.1 i).1++[32]++Lib.itoa (nth aO o.2.2.2.1 i).2.2.1++[32]++(nth aO o.2.2.2.1 i).2.2.2.1++[10]):=by
 rw [xl h];unfold uZ;rw [if_neg hk,if_neg hk2]
theorem D6 {o:D aA} (h:cB o≠0):ku o=([],aT (cB o)):=by unfold ku;rw [if_pos h]
theorem BH {o:D aA} (h:cB o=0) {i:Nat} (hi:i=o.2.2.2.1.length) (hl:(eK o i).length > 1200):ku o=([], .no 2):=by
 unfold ku;rw [if_neg (by rw [h];decide),if_pos (by unfold eU;rw [<-hi];exact hl)]
theorem u6 {o:D aA} (h:cB o=0) {i:Nat} (hi:i=o.2.2.2.1.length) (hl:(eK o i).length<=1200):ku o=(eK o i, .nil):=by
 unfold ku;rw [if_neg (by rw [h];decide),if_neg (by unfold eU;rw [<-hi];omega)];unfold eU;rw [<-hi]
def kS (o:D aA):aD × Int:=if (eU o).length > 1200 then ([],2) else (eU o,0)
theorem BI {o:D aA} {i:Nat} (hi:i=o.2.2.2.1.length) (hl:(eK o i).length > 1200):kS o=([],2):=by
 unfold kS;rw [if_pos (by unfold eU;rw [<-hi];exact hl)]
theorem u7 {o:D aA} {i:Nat} (hi:i=o.2.2.2.1.length) (hl:(eK o i).length<=1200):kS o=(eK o i,0):=by
 unfold kS;rw [if_neg (by unfold eU;rw [<-hi];omega)];unfold eU;rw [<-hi]
@[reducible] def Hi:List aD:=[[],[98,97,115,101],[119,104,111,108,101],[110,101,97,114]]
theorem Rs:∀i:Nat,(nth .str [[],[98,97,115,101],[119,104,111,108,101],[110,101,97,114]] i).length<=5
 | 0=>by decide
 | 1=>by decide
 | 2=>by decide
 | 3=>by decide
 | n + 4=>by show ([]:aD).length<=5;decide
theorem jY.kind {o:D aA} (h:jY o) {i:Nat} (hi:i < o.2.2.2.1.length):iO 1 3 (nth aO o.2.2.2.1 i).2.1:=by
 rcases (h.tie hi).k with e | e | e <;> rw [e] <;> exact ⟨by decide,by decide⟩
theorem Uy {o:D aA} {i:Nat} (hi:i < o.2.2.2.1.length) (h:jY o) (hw:(nth aO o.2.2.2.1 i).2.2.2.2.1=true) (hk:(nth aO o.2.2.2.1 i).2.1≠1) :
  eK o i++[119,101,97,107,32]++nth .str Hi (Int.toNat (nth aO o.2.2.2.1 i).2.1)++[32]++Lib.itoa (nth aO o.2.2.2.1 i).1++[32]++Lib.itoa (nth aO o.2.2.2.1 i).2.2.1++[32]++(nth aO o.2.2.2.1 i).2.2.2.1++[10]=eK o (i + 1):=by
 rcases (h.tie hi).k with e | e | e
 ·exact absurd e hk
 ·rw [u4 hi hk e,hw,e];simp [fM,nth]
 ·rw [u5 hi hk (by rw [e];decide),hw,e];simp [fM,nth]
theorem Uz {o:D aA} {i:Nat} (hi:i < o.2.2.2.1.length) (h:jY o) (hw:(nth aO o.2.2.2.1 i).2.2.2.2.1=false) (hk:(nth aO o.2.2.2.1 i).2.1≠1) :
  eK o i++nth .str Hi (Int.toNat (nth aO o.2.2.2.1 i).2.1)++[32]++Lib.itoa (nth aO o.2.2.2.1 i).1++[32]++Lib.itoa (nth aO o.2.2.2.1 i).2.2.1++[32]++(nth aO o.2.2.2.1 i).2.2.2.1++[10]=eK o (i + 1):=by
 rcases (h.tie hi).k with e | e | e
 ·exact absurd e hk
 ·rw [u4 hi hk e,hw,e];simp [fM,nth]
 ·rw [u5 hi hk (by rw [e];decide),hw,e];simp [fM,nth]
theorem UA {o:D aA} {i:Nat} (hi:i < o.2.2.2.1.length) (hk:(nth aO o.2.2.2.1 i).2.1=1) :
  eK o i++nth .str Hi (Int.toNat (nth aO o.2.2.2.1 i).2.1)++[32]++Lib.itoa (nth aO o.2.2.2.1 i).1++[32]++Lib.itoa (nth aO o.2.2.2.1 i).2.2.1++[10]=eK o (i + 1):=by
 rw [BG hi hk,hk];simp [nth]
theorem UB {o:D aA} {i:Nat} (hi:i < o.2.2.1.length) (hw:(nth aN o.2.2.1 i).2.2.1=true) :
  iy o i++[119,101,97,107,32]++[115,121,109,98,111,108,32]++(nth aN o.2.2.1 i).1++[32]++Lib.itoa (nth aN o.2.2.1 i).2.1++[10]=iy o (i + 1):=by
 rw [xk hi];unfold xj;rw [hw];simp [fM]
theorem UC {o:D aA} {i:Nat} (hi:i < o.2.2.1.length) (hw:(nth aN o.2.2.1 i).2.2.1=false) :
  iy o i++[115,121,109,98,111,108,32]++(nth aN o.2.2.1 i).1++[32]++Lib.itoa (nth aN o.2.2.1 i).2.1++[10]=iy o (i + 1):=by
 rw [xk hi];unfold xj;rw [hw];simp [fM]
theorem Vb {o:D aA} {i:Nat} (hi:i < o.1.length):kB o i++[110,101,101,100,32]++nth .str o.1 i++[10]=kB o (i + 1):=by
 rw [D0 hi];unfold uX;simp
theorem Vc {o:D aA} {i:Nat} (hi:i < o.2.1.length):jX o i++[119,111,114,100,32]++Lib.itoa (nth (.int .i64) o.2.1 i)++[10]=jX o (i + 1):=by
 rw [D1 hi];unfold uY;simp
theorem Lc {x:Int} (h:x > 1):x≠1:=by omega
theorem O0 {x:Int} (h:¬ x > 1) (h':iO 1 3 x):x=1:=by obtain ⟨a,b⟩:=h';omega
end Go.Mrl

namespace Go.Mrl
open Go.Vg
@[reducible] def nq:aD:=[119,101,97,107]
@[reducible] def dZ:aD:=[119,101,97,107,32]
@[reducible] def gD:aD:=[110,101,101,100]
@[reducible] def fZ:aD:=[119,111,114,100]
@[reducible] def eR:aD:=[115,121,109,98,111,108]
@[reducible] def je:aD:=[98,97,115,101]
@[reducible] def gQ:aD:=[119,104,111,108,101]
@[reducible] def iu:aD:=[110,101,97,114]
def ly (o:D aA) (s:aD):D aA:=(o.1++[s],o.2)
def lz (o:D aA) (n:Int):D aA:=(o.1,o.2.1++[n],o.2.2)
def pf (o:D aA) (y:D aN):D aA:=(o.1,o.2.1,o.2.2.1++[y],o.2.2.2)
def jN (o:D aA) (t:D aO):D aA:=(o.1,o.2.1,o.2.2.1,o.2.2.2.1++[t],())
def Ar (x y:aD) (k:Int->Int->D aA):Option (D aA):=
 match dB x,dB y with
 | some m,some n=>some (k m n)
 | _,_=>none
def mM (o:D aA) (b:Bool):List aD->Option (D aA)
 | [a,x]=>if a=gD then some (ly o x) else if a=fZ then (dB x).map (lz o) else none
 | [a,x,y]=>if a=eR then (dB y).map fun n=>pf o (x,n,b,()) else if a=je then Ar x y fun m n=>jN o (m,1,n,[],false,()) else none
 | [a,x,y,z]=>if a=gQ\/a=iu then Ar x y fun m n=>jN o (m,if a=iu then 3 else 2,n,z,b,()) else none
 | _=>none
def pg (o:D aA) (s:aD):Option (D aA):=mM o (Lib.hasPrefix s dZ) (parts 32 (Lib.trimPrefix s dZ))
def mh (x:aD):Int:=(lu x).getD (-1099511627776)
def il (o:D aA) (b:Bool):List aD->Option (D aA)
 | [a,x]=>if a=gD then some (ly o x) else if a=fZ then some (lz o (mh x)) else none
 | [a,x,y]=>if a=eR then some (pf o (x,mh y,b,())) else if a=je then some (jN o (mh x,1,mh y,[],b,())) else none
 | [a,x,y,z]=>if a=gQ then some (jN o (mh x,2,mh y,z,b,())) else if a=iu then some (jN o (mh x,3,mh y,z,b,())) else none
 | _=>none
def yd (l:List aD):Bool:=decide (l.headD []=nq)
def BJ (l:List aD):List aD:=if yd l=true then l.drop 1 else l
def kv (o:D aA) (s:aD):Option (D aA):=il o (yd (parts 32 s)) (BJ (parts 32 s))
def run (f:D aA->aD->Option (D aA)):D aA->List aD->Option (D aA)
 | o,[]=>some o
 | o,s :: r=>match f o s with
  | some p=>run f p r
  | none=>none
theorem As {f:D aA->aD->Option (D aA)}:∀{l:List aD} {o:D aA} {s:aD},run f o (l++[s])=(run f o l).bind fun p=>f p s
 | [],o,s=>by simp only [List.nil_append,run,Option.bind_some];cases f o s <;> rfl
 | x :: r,o,s=>by
  simp only [List.cons_append,run]
  cases f o x with
  | none=>rfl
  | some p=>exact As
theorem tP {f:D aA->aD->Option (D aA)}:∀{l m:List aD} {o p:D aA},run f o l=some p->run f o (l++m)=run f p m
 | [],m,o,p,h=>by simp only [run,Option.some.injEq] at h;rw [h];rfl
 | x :: r,m,o,p,h=>by
  simp only [run] at h
  simp only [List.cons_append,run]
  cases hx:f o x with
  | none=>rw [hx] at h;cases h
  | some q=>rw [hx] at h;exact tP h
def mq (s:aD):aD:=[110,101,101,100,32]++s
def mr (n:Int):aD:=[119,111,114,100,32]++Lib.itoa n
def At (y:D aN):aD:=fM y.2.2.1++([115,121,109,98,111,108,32]++(y.1++32 :: Lib.itoa y.2.1))
def u9 (t:D aO):aD:=
 if t.2.1=1 then [98,97,115,101,32]++(Lib.itoa t.1++32 :: Lib.itoa t.2.2.1)
 else if t.2.1=2 then fM t.2.2.2.2.1++([119,104,111,108,101,32]++(Lib.itoa t.1++32 :: (Lib.itoa t.2.2.1++32 :: t.2.2.2.1)))
 else fM t.2.2.2.2.1++([110,101,97,114,32]++(Lib.itoa t.1++32 :: (Lib.itoa t.2.2.1++32 :: t.2.2.2.1)))
def ph (o:D aA):List aD:=o.1.map mq++(o.2.1.map mr++(o.2.2.1.map At++o.2.2.2.1.map u9))
theorem rJ {α:Type} {f g:α->aD} (h:∀x,f x=g x++[10]):∀l:List α,l.flatMap f=la 10 (l.map g)
 | []=>rfl
 | x :: r=>by rw [List.flatMap_cons,rJ h r,List.map_cons,xe,h];simp
theorem Au (c:UInt8) (l m:List aD):la c (l++m)=la c l++la c m:=by simp [la]
theorem yU (o:D aA):eU o=la 10 (ph o):=by
 unfold eU eK iy jX kB ph
 rw [List.take_length,List.take_length,List.take_length,List.take_length,Au,Au,Au,
  rJ (g:=mq) (fun s=>by simp [uX,mq]) o.1,rJ (g:=mr) (fun s=>by simp [uY,mr]) o.2.1,
  rJ (g:=At) (fun s=>by simp [xj,At]) o.2.2.1,
  rJ (g:=u9) (fun s=>by unfold uZ u9;split <;> (try split) <;> simp) o.2.2.2.1]
 simp
structure Reads (f:D aA->aD->Option (D aA)):Prop where
 rI:∀(o:D aA) (s:aD),Nm s->f o (mq s)=some (ly o s)
 word:∀(o:D aA) (n:Int),iO (-2147483648) 2147483647 n->f o (mr n)=some (lz o n)
 sym:∀(o:D aA) (y:D aN),Nm y.1->iO 0 39 y.2.1->f o (At y)=some (pf o y)
 tie:∀(o:D aA) (t:D aO),BD t->f o (u9 t)=some (jN o t)
section
variable {f:D aA->aD->Option (D aA)} (h:Reads f)
include h
theorem D7:∀(l:List aD) (o:D aA),(∀s∈l,Nm s)->run f o (l.map mq)=some (o.1++l,o.2)
 | [],o,_=>by simp [run]
 | s :: r,o,hl=>by
  rw [List.map_cons,run,h.rI o s (hl s (by simp))]
  show run f (ly o s) (r.map mq)=_
  rw [D7 r _ fun x hx=>hl x (List.mem_cons_of_mem _ hx)]
  simp [ly]
theorem D8:∀(l:List Int) (o:D aA),(∀n∈l,iO (-2147483648) 2147483647 n)->run f o (l.map mr)=some (o.1,o.2.1++l,o.2.2)
 | [],o,_=>by simp [run]
 | s :: r,o,hl=>by
  rw [List.map_cons,run,h.word o s (hl s (by simp))]
  show run f (lz o s) (r.map mr)=_
  rw [D8 r _ fun x hx=>hl x (List.mem_cons_of_mem _ hx)]
  simp [lz]
theorem Hj:∀(l:List (D aN)) (o:D aA),(∀y∈l,Nm y.1/\iO 0 39 y.2.1)->run f o (l.map At)=some (o.1,o.2.1,o.2.2.1++l,o.2.2.2)
 | [],o,_=>by simp [run]
 | s :: r,o,hl=>by
  rw [List.map_cons,run,h.sym o s (hl s (by simp)).1 (hl s (by simp)).2]
  show run f (pf o s) (r.map At)=_
  rw [Hj r _ fun x hx=>hl x (List.mem_cons_of_mem _ hx)]
  simp [pf]
theorem Hk:∀(l:List (D aO)) (o:D aA),(∀t∈l,BD t)->run f o (l.map u9)=some (o.1,o.2.1,o.2.2.1,o.2.2.2.1++l,())
 | [],o,_=>by simp [run]
 | s :: r,o,hl=>by
  rw [List.map_cons,run,h.tie o s (hl s (by simp))]
  show run f (jN o s) (r.map u9)=_
  rw [Hk r _ fun x hx=>hl x (List.mem_cons_of_mem _ hx)]
  simp [jN]
theorem D9 {o:D aA} (ok:jY o):run f (bO aA) (ph o)=some o:=by
 unfold ph
 rw [tP (D7 h o.1 _ ok.FU),tP (D8 h o.2.1 _ ok.words),tP (Hj h o.2.2.1 _ ok.syms),Hk h o.2.2.2.1 _ ok.My]
 rfl
end
theorem BK {a:UInt8} {s:aD} (h:a≠119):Lib.hasPrefix (a :: s) dZ=false:=by
 unfold Lib.hasPrefix dZ;simp [List.isPrefixOf];intro e;exact absurd e.symm h
theorem Tw {s:aD} (h:Lib.hasPrefix s dZ=false):Lib.trimPrefix s dZ=s:=by unfold Lib.trimPrefix;rw [if_neg (by rw [h];decide)]
theorem Ld (s:aD):Lib.hasPrefix (dZ++s) dZ=true:=by unfold Lib.hasPrefix dZ;simp [List.isPrefixOf]
theorem Rt (s:aD):Lib.trimPrefix (dZ++s) dZ=s:=by unfold Lib.trimPrefix;rw [if_pos (Ld s)];rfl
theorem Le {a b:UInt8} {s:aD} (h:b≠101):Lib.hasPrefix (a :: b :: s) dZ=false:=by
 unfold Lib.hasPrefix dZ;simp [List.isPrefixOf];intro _ e;exact absurd e.symm h
theorem nr (o:D aA) (b:Bool) (s:aD) (h:Lib.hasPrefix s dZ=false):pg o (fM b++s)=mM o b (parts 32 s):=by
 unfold pg
 cases b with
 | false=>show mM o (Lib.hasPrefix s dZ) (parts 32 (Lib.trimPrefix s dZ))=_;rw [h,Tw h]
 | true=>show mM o (Lib.hasPrefix (dZ++s) dZ) (parts 32 (Lib.trimPrefix (dZ++s) dZ))=_;rw [Ld,Rt]
theorem nt (o:D aA) (b:Bool) (s:aD) (h:yd (parts 32 s)=false):kv o (fM b++s)=il o b (parts 32 s):=by
 unfold kv
 cases b with
 | false=>show il o (yd (parts 32 s)) (BJ (parts 32 s))=_;unfold BJ;rw [h,if_neg (by decide)]
 | true=>
  have e:parts 32 (fM true++s)=nq :: parts 32 s:=gw (x:=nq) (by decide)
  rw [e]
  rfl
theorem nu {s:aD} (h:Nm s):(32:UInt8)∉s/\(10:UInt8)∉s:=⟨fun hc=>(h.2.2 _ hc).2 rfl,fun hc=>(h.2.2 _ hc).1 rfl⟩
theorem jK (n:Int):(32:UInt8)∉Lib.itoa n:=DX (by decide)
theorem mN (n:Int):(10:UInt8)∉Lib.itoa n:=DX (by decide)
theorem vb {s:aD} (h:Nm s):parts 32 (mq s) = [gD,s]:=by
 show parts 32 (gD++32 :: s)=_
 rw [gw (by decide),kQ (nu h).1]
theorem ve (n:Int):parts 32 (mr n) = [fZ,Lib.itoa n]:=by
 show parts 32 (fZ++32 :: Lib.itoa n)=_
 rw [gw (by decide),kQ (jK n)]
theorem xp {s:aD} {n:Int} (h:Nm s):parts 32 ([115,121,109,98,111,108,32]++(s++32 :: Lib.itoa n)) = [eR,s,Lib.itoa n]:=by
 show parts 32 (eR++32 :: (s++32 :: Lib.itoa n))=_
 rw [gw (by decide),gw (nu h).1,kQ (jK n)]
theorem vf (m n:Int):parts 32 ([98,97,115,101,32]++(Lib.itoa m++32 :: Lib.itoa n)) = [je,Lib.itoa m,Lib.itoa n]:=by
 show parts 32 (je++32 :: (Lib.itoa m++32 :: Lib.itoa n))=_
 rw [gw (by decide),gw (jK m),kQ (jK n)]
theorem sZ {s:aD} (m n:Int) (h:Nm s):parts 32 ([119,104,111,108,101,32]++(Lib.itoa m++32 :: (Lib.itoa n++32 :: s))) = [gQ,Lib.itoa m,Lib.itoa n,s]:=by
 show parts 32 (gQ++32 :: (Lib.itoa m++32 :: (Lib.itoa n++32 :: s)))=_
 rw [gw (by decide),gw (jK m),gw (jK n),kQ (nu h).1]
theorem vg {s:aD} (m n:Int) (h:Nm s):parts 32 ([110,101,97,114,32]++(Lib.itoa m++32 :: (Lib.itoa n++32 :: s))) = [iu,Lib.itoa m,Lib.itoa n,s]:=by
 show parts 32 (iu++32 :: (Lib.itoa m++32 :: (Lib.itoa n++32 :: s)))=_
 rw [gw (by decide),gw (jK m),gw (jK n),kQ (nu h).1]
theorem q7 {a b n:Int} (h:iO a b n) (ha : -9223372036854775808<=a) (hb:b<=9223372036854775807):dB (Lib.itoa n)=some n:=OX (Int.le_trans ha h.1) (Int.le_trans h.2 hb)
theorem ye {a b n:Int} (h:iO a b n) (ha : -999999999999999999<=a) (hb:b<=999999999999999999):mh (Lib.itoa n)=n:=by
 unfold mh;rw [xg (Int.le_trans ha h.1) (Int.le_trans h.2 hb)];rfl
theorem UD:Reads pg where
 rI o s h:=by
  have:=nr o false (mq s) (BK (by decide))
  rw [show fM false++mq s=mq s from rfl,vb h] at this
  exact this
 word o n h:=by
  have:=nr o false (mr n) (Le (by decide))
  rw [show fM false++mr n=mr n from rfl,ve] at this
  rw [this]
  show (if fZ=gD then some (ly o (Lib.itoa n)) else if fZ=fZ then (dB (Lib.itoa n)).map (lz o) else none)=_
  rw [if_neg (by decide),if_pos rfl,q7 h (by decide) (by decide)];rfl
 sym o y h h':=by
  have:=nr o y.2.2.1 ([115,121,109,98,111,108,32]++(y.1++32 :: Lib.itoa y.2.1)) (BK (by decide))
  rw [xp h] at this
  refine Eq.trans this ?_
  dsimp only [mM]
  rw [if_pos rfl,q7 h' (by decide) (by decide)];rfl
 tie o t h:=by
  obtain ⟨at',k,ad,nm,b,_⟩:=t
  have ha:=q7 h.a (by decide) (by decide)
  have hw:=q7 h.w (by decide) (by decide)
  simp only at ha hw
  unfold u9
  rcases h.k with e | e | e
  ·have hb:=h.base e
   simp only at e hb
   obtain ⟨rfl,rfl⟩:=hb
   subst e
   rw [if_pos rfl]
   have:=nr o false ([98,97,115,101,32]++(Lib.itoa at'++32 :: Lib.itoa ad)) (BK (by decide))
   rw [vf] at this
   refine this.trans ?_
   dsimp only [mM]
   rw [if_neg (by decide),if_pos rfl];unfold Ar;rw [ha,hw]
  ·have hn:=h.nm (by rw [show _=_ from e];decide)
   simp only at e hn
   subst e
   rw [if_neg (by simp),if_pos rfl]
   have:=nr o b ([119,104,111,108,101,32]++(Lib.itoa at'++32 :: (Lib.itoa ad++32 :: nm))) (Le (by decide))
   rw [sZ _ _ hn] at this
   refine this.trans ?_
   dsimp only [mM]
   rw [if_pos (.inl rfl),if_neg (by decide)];unfold Ar;rw [ha,hw]
  ·have hn:=h.nm (by rw [show _=_ from e];decide)
   simp only at e hn
   subst e
   rw [if_neg (by simp),if_neg (by simp)]
   have:=nr o b ([110,101,97,114,32]++(Lib.itoa at'++32 :: (Lib.itoa ad++32 :: nm))) (BK (by decide))
   rw [vg _ _ hn] at this
   refine this.trans ?_
   dsimp only [mM]
   rw [if_pos (.inr rfl),if_pos rfl];unfold Ar;rw [ha,hw]
theorem UE:Reads kv where
 rI o s h:=by
  have:=nt o false (mq s) (by rw [vb h];rfl)
  rw [show fM false++mq s=mq s from rfl,vb h] at this
  exact this
 word o n h:=by
  have:=nt o false (mr n) (by rw [ve];rfl)
  rw [show fM false++mr n=mr n from rfl,ve] at this
  rw [this]
  show (if fZ=gD then some (ly o (Lib.itoa n)) else if fZ=fZ then some (lz o (mh (Lib.itoa n))) else none)=_
  rw [if_neg (by decide),if_pos rfl,ye h (by decide) (by decide)]
 sym o y h h':=by
  have:=nt o y.2.2.1 ([115,121,109,98,111,108,32]++(y.1++32 :: Lib.itoa y.2.1)) (by rw [xp h];rfl)
  rw [xp h] at this
  refine Eq.trans this ?_
  dsimp only [il]
  rw [if_pos rfl,ye h' (by decide) (by decide)]
 tie o t h:=by
  obtain ⟨at',k,ad,nm,b,_⟩:=t
  have ha:=ye h.a (by decide) (by decide)
  have hw:=ye h.w (by decide) (by decide)
  simp only at ha hw
  unfold u9
  rcases h.k with e | e | e
  ·have hb:=h.base e
   simp only at e hb
   obtain ⟨rfl,rfl⟩:=hb
   subst e
   rw [if_pos rfl]
   have:=nt o false ([98,97,115,101,32]++(Lib.itoa at'++32 :: Lib.itoa ad)) (by rw [vf];rfl)
   rw [vf] at this
   refine this.trans ?_
   dsimp only [il]
   rw [if_neg (by decide),if_pos rfl,ha,hw]
  ·have hn:=h.nm (by rw [show _=_ from e];decide)
   simp only at e hn
   subst e
   rw [if_neg (by simp),if_pos rfl]
   have:=nt o b ([119,104,111,108,101,32]++(Lib.itoa at'++32 :: (Lib.itoa ad++32 :: nm))) (by rw [sZ _ _ hn];rfl)
   rw [sZ _ _ hn] at this
   refine this.trans ?_
   dsimp only [il]
   rw [if_pos rfl,ha,hw]
  ·have hn:=h.nm (by rw [show _=_ from e];decide)
   simp only at e hn
   subst e
   rw [if_neg (by simp),if_neg (by simp)]
   have:=nt o b ([110,101,97,114,32]++(Lib.itoa at'++32 :: (Lib.itoa ad++32 :: nm))) (by rw [vg _ _ hn];rfl)
   rw [vg _ _ hn] at this
   refine this.trans ?_
   dsimp only [il]
   rw [if_neg (by decide),if_pos rfl,ha,hw]
end Go.Mrl

namespace Go.Mrl
open Go.Vg
theorem BL {o:D aA} (h:jY o):∀l∈ph o,(10:UInt8)∉l:=by
 intro l hl
 unfold ph at hl
 simp only [List.mem_append,List.mem_map] at hl
 have hw:∀b,(10:UInt8)∉fM b:=by intro b;cases b <;> decide
 rcases hl with ⟨s,hs,rfl⟩ | ⟨n,hn,rfl⟩ | ⟨y,hy,rfl⟩ | ⟨t,ht,rfl⟩
 ·have:=(nu (h.FU s hs)).2
  unfold mq;simp [this]
 ·have:=mN n
  unfold mr;simp [this]
 ·have h1:=(nu (h.syms y hy).1).2
  have h2:=mN y.2.1
  have h3:=hw y.2.2.1
  unfold At;simp [h1,h2,h3]
 ·have h1:=mN t.1
  have h2:=mN t.2.2.1
  have h3:=hw t.2.2.2.2.1
  unfold u9
  split
  ·simp [h1,h2]
  ·rename_i hk
   have h4:=(nu ((h.My t ht).nm hk)).2
   split <;> simp [h1,h2,h3,h4]
theorem Ru {o:D aA} (h:jY o):ph o≠[]:=by
 have h1:=h.w1
 unfold ph
 intro e
 simp only [List.append_eq_nil_iff,List.map_eq_nil_iff] at e
 rw [e.2.1] at h1
 simp at h1
def Mz (s:aD):Option (D aA):=run pg (bO aA) (parts 10 (Lib.trimSuffix s [10]))
theorem sA {o:D aA} (h:cB o=0):Mz (eU o)=some o:=by
 have ok:=gC h
 unfold Mz
 rw [yU,Mx (Ru ok) (BL ok),D9 UD ok]
theorem O1 {o p:D aA} (h:cB o=0) (h':cB p=0) (e:eU o=eU p):o=p:=by
 have a:=sA h
 rw [e,sA h'] at a
 exact (Option.some.inj a).symm
open Classical in
noncomputable def bP (s:aD):D aA × Int:=
 if s.length > 1200 then (bO aA,2)
 else if h:∃o:D aA,cB o=0/\eU o=s then (Classical.choose h,0) else (bO aA,4)
theorem xq {s:aD} (h:s.length > 1200):bP s=(bO aA,2):=by unfold bP;rw [if_pos h]
theorem CY {s:aD} {o:D aA} (h:¬ s.length > 1200) (hf:cB o=0) (ht:eU o=s):bP s=(o,0):=by
 have hx:∃o:D aA,cB o=0/\eU o=s:=⟨o,hf,ht⟩
 have hc:=Classical.choose_spec hx
 unfold bP
 rw [if_neg h,dif_pos hx,O1 hc.1 hf (hc.2.trans ht.symm)]
theorem pK {s:aD} (h:¬ s.length > 1200) (hn:∀o:D aA,cB o=0->eU o≠s):bP s=(bO aA,4):=by
 unfold bP
 rw [if_neg h,dif_neg fun ⟨o,h1,h2⟩=>hn o h1 h2]
theorem MA {s:aD} (h:¬ s.length > 1200) (hr:Mz s=none):bP s=(bO aA,4):=
 pK h fun o h1 h2=>by rw [<-h2,sA h1] at hr;cases hr
theorem BM {s:aD} {o:D aA} (h:¬ s.length > 1200) (hr:Mz s=some o) (hb:cB o=0->eU o≠s):bP s=(bO aA,4):=
 pK h fun p h1 h2=>by
  have:p=o:=by rw [<-h2,sA h1] at hr;exact Option.some.inj hr
  rw [this] at h1 h2
  exact hb h1 h2
def qw (s:aD):List aD × Bool:=((parts 10 s).dropLast,decide ((parts 10 s).getLastD [] = []))
theorem CZ {s x:aD} {L:List aD} (h:∀y∈L,(10:UInt8)∉y) (hx:(10:UInt8)∉x) (e:la 10 L++x=s):qw s=(L,decide (x = [])):=by
 unfold qw
 rw [<-e,uW h hx];simp
def MB (s:aD):Option (D aA):=run kv (bO aA) (qw s).1
theorem Ea {o:D aA} (h:cB o=0):qw (eU o)=(ph o,true):=by
 have ok:=gC h
 rw [CZ (x:=[]) (BL ok) (by simp) (by rw [yU];simp)]
 rfl
theorem Eb {o:D aA} (h:cB o=0):MB (eU o)=some o:=by
 unfold MB
 rw [Ea h,D9 UE (gC h)]
theorem O3 {s:aD} (h:¬ s.length > 1200) (hr:(qw s).2=false):bP s=(bO aA,4):=
 pK h fun o h1 h2=>by rw [<-h2,Ea h1] at hr;cases hr
theorem MC {s:aD} (h:¬ s.length > 1200) (hr:MB s=none):bP s=(bO aA,4):=
 pK h fun o h1 h2=>by rw [<-h2,Eb h1] at hr;cases hr
theorem MD {s:aD} {o:D aA} (h:¬ s.length > 1200) (hr:MB s=some o) (hb:cB o=0->eU o≠s):bP s=(bO aA,4):=
 pK h fun p h1 h2=>by
  have:p=o:=by rw [<-h2,Eb h1] at hr;exact Option.some.inj hr
  rw [this] at h1 h2
  exact hb h1 h2
def gO (o:D aA) (b:Bool) (s:aD):D aA × Bool:=
 let w:=parts 32 (Lib.trimPrefix s dZ)
 if nth .str w 0=gD/\w.length=2 then (ly o (nth .str w 1),b)
 else if nth .str w 0=fZ/\w.length=2 then (lz o (dP (nth .str w 1)).1,b || (dB (nth .str w 1)).isNone)
 else if nth .str w 0=eR/\w.length=3 then (pf o (nth .str w 1,(dP (nth .str w 2)).1,Lib.hasPrefix s dZ,()),b || (dB (nth .str w 2)).isNone)
 else if nth .str w 0=je/\w.length=3 then (jN o ((dP (nth .str w 1)).1,1,(dP (nth .str w 2)).1,[],false,()),(b || (dB (nth .str w 1)).isNone) || (dB (nth .str w 2)).isNone)
 else if (nth .str w 0=gQ\/nth .str w 0=iu)/\w.length=4 then
  (jN o ((dP (nth .str w 1)).1,if nth .str w 0=iu then 3 else 2,(dP (nth .str w 2)).1,nth .str w 3,Lib.hasPrefix s dZ,()),(b || (dB (nth .str w 1)).isNone) || (dB (nth .str w 2)).isNone)
 else (o,true)
theorem mO {s:aD} {n:Int} (h:dB s=some n):(dP s).1=n:=by
 unfold dB at h
 unfold dP
 cases ha:Lib.atoiAll s with
 | ok v=>rw [ha] at h;simp only at h ⊢;split at h <;> simp_all
 | range=>rw [ha] at h;cases h
 | _=>rw [ha] at h;cases h
theorem ME (o:D aA) (b:Bool) (s:aD):(∃p,pg o s=some p/\gO o b s=(p,b))\/(pg o s=none/\(gO o b s).2=true):=by
 unfold pg gO
 generalize hw:parts 32 (Lib.trimPrefix s dZ)=w
 generalize Lib.hasPrefix s dZ=k
 have hne:=rG 32 (Lib.trimPrefix s dZ)
 rw [hw] at hne
 match w,hne with
 | [],hne=>exact absurd rfl hne
 | [a],_=>exact .inr ⟨rfl,by simp⟩
 | [a,x],_=>
  dsimp only [mM]
  simp only [show nth .str [a,x] 0=a from rfl,show nth .str [a,x] 1=x from rfl]
  by_cases h1:a=gD
  ·rw [if_pos h1,if_pos (show (a=gD)/\[a,x].length=2 from ⟨h1,rfl⟩)];exact .inl ⟨_,rfl,rfl⟩
  ·rw [if_neg h1,if_neg (show ¬ ((a=gD)/\[a,x].length=2) from fun e=>h1 e.1)]
   by_cases h2:a=fZ
   ·rw [if_pos h2,if_pos (show (a=fZ)/\[a,x].length=2 from ⟨h2,rfl⟩)]
    cases hn:dB x with
    | none=>exact .inr ⟨rfl,by simp⟩
    | some n=>exact .inl ⟨_,rfl,by rw [mO hn];simp⟩
   ·rw [if_neg h2,if_neg (show ¬ ((a=fZ)/\[a,x].length=2) from fun e=>h2 e.1),if_neg (show ¬ ((a=eR)/\[a,x].length=3) from fun e=>absurd e.2 (by simp)),if_neg (show ¬ ((a=je)/\[a,x].length=3) from fun e=>absurd e.2 (by simp)),if_neg (show ¬ ((a=gQ\/a=iu)/\[a,x].length=4) from fun e=>absurd e.2 (by simp))];exact .inr ⟨rfl,rfl⟩
 | [a,x,y],_=>
  dsimp only [mM]
  simp only [show nth .str [a,x,y] 0=a from rfl,show nth .str [a,x,y] 1=x from rfl,show nth .str [a,x,y] 2=y from rfl]
  rw [if_neg (show ¬ ((a=gD)/\[a,x,y].length=2) from fun e=>absurd e.2 (by simp)),if_neg (show ¬ ((a=fZ)/\[a,x,y].length=2) from fun e=>absurd e.2 (by simp))]
  by_cases h1:a=eR
  ·rw [if_pos h1,if_pos (show (a=eR)/\[a,x,y].length=3 from ⟨h1,rfl⟩)]
   cases hn:dB y with
   | none=>exact .inr ⟨rfl,by simp⟩
   | some n=>exact .inl ⟨_,rfl,by rw [mO hn];simp⟩
  ·rw [if_neg h1,if_neg (show ¬ ((a=eR)/\[a,x,y].length=3) from fun e=>h1 e.1)]
   by_cases h2:a=je
   ·rw [if_pos h2,if_pos (show (a=je)/\[a,x,y].length=3 from ⟨h2,rfl⟩)]
    unfold Ar
    cases hm:dB x with
    | none=>exact .inr ⟨rfl,by simp⟩
    | some m=>
     cases hn:dB y with
     | none=>exact .inr ⟨rfl,by simp⟩
     | some n=>exact .inl ⟨_,rfl,by rw [mO hn,mO hm];simp⟩
   ·rw [if_neg h2,if_neg (show ¬ ((a=je)/\[a,x,y].length=3) from fun e=>h2 e.1),if_neg (show ¬ ((a=gQ\/a=iu)/\[a,x,y].length=4) from fun e=>absurd e.2 (by simp))];exact .inr ⟨rfl,rfl⟩
 | [a,x,y,z],_=>
  dsimp only [mM]
  simp only [show nth .str [a,x,y,z] 0=a from rfl,show nth .str [a,x,y,z] 1=x from rfl,show nth .str [a,x,y,z] 2=y from rfl,show nth .str [a,x,y,z] 3=z from rfl]
  rw [if_neg (show ¬ ((a=gD)/\[a,x,y,z].length=2) from fun e=>absurd e.2 (by simp)),if_neg (show ¬ ((a=fZ)/\[a,x,y,z].length=2) from fun e=>absurd e.2 (by simp)),if_neg (show ¬ ((a=eR)/\[a,x,y,z].length=3) from fun e=>absurd e.2 (by simp)),if_neg (show ¬ ((a=je)/\[a,x,y,z].length=3) from fun e=>absurd e.2 (by simp))]
  by_cases h1:a=gQ\/a=iu
  ·rw [if_pos h1,if_pos (show (a=gQ\/a=iu)/\[a,x,y,z].length=4 from ⟨h1,rfl⟩)]
   unfold Ar
   cases hm:dB x with
   | none=>exact .inr ⟨rfl,by simp⟩
   | some m=>
    cases hn:dB y with
    | none=>exact .inr ⟨rfl,by simp⟩
    | some n=>exact .inl ⟨_,rfl,by rw [mO hn,mO hm];simp⟩
  ·rw [if_neg h1,if_neg (show ¬ ((a=gQ\/a=iu)/\[a,x,y,z].length=4) from fun e=>h1 e.1)];exact .inr ⟨rfl,rfl⟩
 | a :: x :: y :: z :: u :: r,_=>exact .inr ⟨rfl,by simp⟩
theorem O4 (o:D aA) (s:aD):(gO o true s).2=true:=by
 unfold gO;simp only [Bool.true_or]
 split
 ·rfl
 ·split
  ·rfl
  ·split
   ·rfl
   ·split
    ·rfl
    ·split <;> rfl
theorem O5 (o:D aA) (b:Bool) (s:aD) :
  (gO o b s).1.1.length<=o.1.length + 1/\(gO o b s).1.2.1.length<=o.2.1.length + 1/\(gO o b s).1.2.2.1.length<=o.2.2.1.length + 1/\(gO o b s).1.2.2.2.1.length<=o.2.2.2.1.length + 1:=by
 have e:∀{α:Type} (l:List α) (x:α),(l++[x]).length<=l.length + 1:=fun l x=>by simp
 have e0:∀n:Nat,n<=n + 1:=fun n=>Nat.le_succ n
 unfold gO
 simp only
 split
 ·exact ⟨e _ _,e0 _,e0 _,e0 _⟩
 ·split
  ·exact ⟨e0 _,e _ _,e0 _,e0 _⟩
  ·split
   ·exact ⟨e0 _,e0 _,e _ _,e0 _⟩
   ·split
    ·exact ⟨e0 _,e0 _,e0 _,e _ _⟩
    ·split
     ·exact ⟨e0 _,e0 _,e0 _,e _ _⟩
     ·exact ⟨e0 _,e0 _,e0 _,e0 _⟩
structure lA (L:List aD) (i:Nat) (o:D aA) (b:Bool):Prop where
 le:i<=L.length
 st:(run pg (bO aA) (L.take i)=some o/\b=false)\/(run pg (bO aA) (L.take i)=none/\b=true)
 l1:o.1.length<=i
 l2:o.2.1.length<=i
 l3:o.2.2.1.length<=i
 l4:o.2.2.2.1.length<=i
theorem lA.zero (L:List aD):lA L 0 (bO aA) false:=⟨Nat.zero_le _, .inl ⟨rfl,rfl⟩,Nat.le_refl _,Nat.le_refl _,Nat.le_refl _,Nat.le_refl _⟩
theorem lA.next {L:List aD} {i:Nat} {o:D aA} {b:Bool} (h:lA L i o b) (hi:i < L.length):lA L (i + 1) (gO o b (nth .str L i)).1 (gO o b (nth .str L i)).2:=by
 obtain ⟨a1,a2,a3,a4⟩:=O5 o b (nth .str L i)
 refine ⟨hi,?_,by have:=h.l1;omega,by have:=h.l2;omega,by have:=h.l3;omega,by have:=h.l4;omega⟩
 rw [iK (t:=.str) hi,As]
 rcases h.st with ⟨hr,hb⟩ | ⟨hr,hb⟩
 ·rw [hr,Option.bind_some]
  rcases ME o b (nth .str L i) with ⟨p,h1,h2⟩ | ⟨h1,h2⟩
  ·rw [h2];exact .inl ⟨h1,hb⟩
  ·exact .inr ⟨h1,h2⟩
 ·rw [hr,hb];exact .inr ⟨rfl,O4 o _⟩
end Go.Mrl

namespace Go.Mrl
open Go.Vg
structure iT (c:UInt8) (s:aD) (i:Nat) (L:List aD) (x:aD):Prop where
 le:i<=s.length
 eq:la c L++x=s.take i
 free:∀y∈L,c∉y
 fx:c∉x
 len:L.length<=i
 lx:x.length<=i
theorem iT.zero (c:UInt8) (s:aD):iT c s 0 [] []:=⟨Nat.zero_le _,rfl,by simp,by simp,by simp,by simp⟩
theorem qo {s:aD} {i:Nat} (h:i < s.length):s.take (i + 1)=s.take i++[cF s i]:=by
 rw [List.take_add_one,wM h];rfl
theorem iT.cut {c:UInt8} {s:aD} {i:Nat} {L:List aD} {x:aD} (h:iT c s i L x) (hi:i < s.length) (e:cF s i=c):iT c s (i + 1) (L++[x]) []:=by
 refine ⟨hi,?_,fun y hy => ?_,by simp,by have:=h.len;simp;omega,by simp⟩
 ·rw [qo hi,<-h.eq,e,DU];simp
 ·rcases List.mem_append.1 hy with hy | hy
  ·exact h.free y hy
  ·simp at hy;subst hy;exact h.fx
theorem iT.more {c:UInt8} {s:aD} {i:Nat} {L:List aD} {x:aD} (h:iT c s i L x) (hi:i < s.length) (e:¬ cF s i=c):iT c s (i + 1) L (x++[cF s i]):=by
 refine ⟨hi,?_,h.free,?_,by have:=h.len;omega,by have:=h.lx;simp;omega⟩
 ·rw [qo hi,<-h.eq];simp
 ·intro hc
  rcases List.mem_append.1 hc with hc | hc
  ·exact h.fx hc
  ·simp at hc;exact e hc.symm
theorem iT.done {c:UInt8} {s:aD} {i:Nat} {L:List aD} {x:aD} (h:iT c s i L x) (hi:¬ i < s.length):L++[x]=parts c s:=by
 have e:=h.eq
 rw [List.take_of_length_le (by omega)] at e
 rw [<-e,uW h.free h.fx]
structure iU (c:UInt8) (s:aD) (i:Nat) (L:List aD) (f:Nat):Prop where
 le:i<=s.length
 fi:f<=i
 eq:la c L=s.take f
 free:∀y∈L,c∉y
 UF:∀j,f<=j->j < i->¬ cF s j=c
 len:L.length<=i
theorem iU.zero (c:UInt8) (s:aD):iU c s 0 [] 0:=⟨Nat.zero_le _,Nat.le_refl _,rfl,by simp,fun j h h'=>by omega,by simp⟩
theorem BN {c:UInt8} {s:aD} {f i:Nat} (hi:i<=s.length) (h:∀j,f<=j->j < i->¬ cF s j=c):c∉(s.take i).drop f:=by
 intro hc
 obtain ⟨k,hk,e⟩:=List.getElem_of_mem hc
 rw [List.length_drop,List.length_take] at hk
 rw [List.getElem_drop,List.getElem_take] at e
 refine h (f + k) (by omega) (by omega) ?_
 rw [tl (List.getElem?_eq_getElem (show f + k < s.length by omega))]
 exact e
theorem iU.cut {c:UInt8} {s:aD} {i:Nat} {L:List aD} {f:Nat} (h:iU c s i L f) (hi:i < s.length) (e:cF s i=c):iU c s (i + 1) (L++[(s.take i).drop f]) (i + 1):=by
 refine ⟨hi,Nat.le_refl _,?_,fun y hy => ?_,fun j h1 h2=>by omega,by have:=h.len;simp;omega⟩
 ·have hf:=h.fi
  rw [DU,h.eq,qo hi,e]
  congr 1
  have:=List.take_append_drop f (s.take i)
  rw [List.take_take,Nat.min_eq_left hf] at this
  exact this
 ·rcases List.mem_append.1 hy with hy | hy
  ·exact h.free y hy
  ·simp at hy;subst hy;exact BN h.le h.UF
theorem iU.more {c:UInt8} {s:aD} {i:Nat} {L:List aD} {f:Nat} (h:iU c s i L f) (hi:i < s.length) (e:¬ cF s i=c):iU c s (i + 1) L f:=by
 refine ⟨hi,by have:=h.fi;omega,h.eq,h.free,fun j h1 h2 => ?_,by have:=h.len;omega⟩
 rcases Nat.lt_or_ge j i with hl | hl
 ·exact h.UF j h1 hl
 ·rw [show j=i by omega];exact e
theorem iU.done {s:aD} {i:Nat} {L:List aD} {f:Nat} (h:iU 10 s i L f) (hi:¬ i < s.length):(L,(f == s.length))=qw s:=by
 have hle:=h.le
 have e:i=s.length:=by omega
 have hx:(10:UInt8)∉s.drop f:=by
  have:=BN h.le h.UF
  rwa [List.take_of_length_le (by omega)] at this
 rw [CZ (x:=s.drop f) h.free hx (by rw [h.eq,List.take_append_drop])]
 congr 1
 have:=h.fi
 rw [Bool.eq_iff_iff]
 simp [List.drop_eq_nil_iff]
 omega
theorem O6 {s:aD} (h:0 < s.length) (h2:cF s 0=45):dL s=s.drop 1/\(dL s).length < s.length:=by
 cases s with
 | nil=>simp at h
 | cons c r=>
  have:c=45:=h2
  subst this
  exact ⟨rfl,by simp [dL]⟩
theorem Ec {s:aD} (h:¬ (0 < s.length/\cF s 0=45)):dL s=s:=by
 cases s with
 | nil=>rfl
 | cons c r=>
  have:¬ c=45:=fun e=>h ⟨by simp,e⟩
  unfold dL
  split
  ·rename_i e;cases e;exact absurd rfl this
  ·rfl
theorem Ed {s:aD} (h:0 < s.length):s.head?=some (cF s 0):=by
 cases s with
 | nil=>simp at h
 | cons c r=>rfl
theorem MF {s:aD} (h:(dL s).length < 1\/(dL s).length > 18):lu s=none:=by
 unfold lu;rw [if_pos];rcases h with h | h;exact .inl h;exact .inr (.inl h)
theorem MG {s:aD} (h:0 < (dL s).length) (h1:cF (dL s) 0=48) (h2:1 < s.length):lu s=none:=by
 unfold lu;rw [if_pos];exact .inr (.inr ⟨by rw [Ed h,h1],h2⟩)
theorem Tx {s:aD} (h:¬ (dL s).length < 1) (h':¬ (dL s).length > 18) (h2:¬ (cF (dL s) 0=48/\1 < s.length)) :
  lu s=if (dL s).all jx=true then some (if (dL s).length < s.length then -(kA (dL s):Int) else (kA (dL s):Int)) else none:=by
 unfold lu;rw [if_neg]
 rintro (e | e | ⟨e,e'⟩)
 ·exact h e
 ·exact h' e
 ·rw [Ed (by omega)] at e
  exact h2 ⟨Option.some.inj e,e'⟩
theorem UG {s:aD} {p:UInt8->Bool} {i:Nat} (h:i < s.length) (hn:p (cF s i)=false):s.all p=false:=by
 rw [List.all_eq_false]
 exact ⟨cF s i,List.mem_of_getElem? (wM h),by rw [hn];decide⟩
theorem UH {s:aD} {p:UInt8->Bool} (h:∀j,j < s.length->p (cF s j)=true):s.all p=true:=by
 rw [List.all_eq_true]
 intro x hx
 obtain ⟨i,hi,rfl⟩:=List.getElem_of_mem hx
 have:=h i hi
 rwa [tl (List.getElem?_eq_getElem hi)] at this
theorem O7 {s:aD} {i:Nat} (h:i < s.length):kA (s.take (i + 1))=10 * kA (s.take i) + ((cF s i).toNat - 48):=by rw [qo h,xf]
def nC (s:aD):Int × Bool:=(match lu s with | some n=>n | none=>0,(lu s).isSome)
def cJ (s:aD):Int:=(nC s).1
def fW (s:aD):Bool:=(nC s).2
def eM (s:aD):List aD:=(qw s).1
def pj (s:aD):Bool:=(qw s).2
theorem xr {s:aD} (h:lu s=none):((0:Int),false)=nC s:=by unfold nC;rw [h];rfl
theorem Ee {s:aD} {n:Int} (h:lu s=some n):(n,true)=nC s:=by unfold nC;rw [h];rfl
theorem BO {s:aD} (h0:(s.length:Int) > 0) (h1:((cF s 0).toNat:Int)=45):dL s=List.drop 1 (List.take (List.length s) s):=by
 rw [(O6 (by omega) (UInt8.toNat_inj.1 (by rw [Int.ofNat_inj.1 (show ((cF s 0).toNat:Int)=(45:Nat) from h1)];rfl))).1,List.take_length]
theorem BP {s:aD} (h1:¬ ((cF s 0).toNat:Int)=45):dL s=s:=Ec fun h=>h1 (by rw [h.2];rfl)
theorem BQ {s:aD} (h0:(s.length:Int)<=0):dL s=s:=Ec fun h=>by omega
theorem Rv {s t:aD} (hm:dL s=t) (h:t.length < 1\/t.length > 18):((0:Int),false)=nC s:=xr (MF (by rw [hm];exact h))
theorem O8 {s t:aD} (hm:dL s=t) (h:0 < t.length) (h1:((cF t 0).toNat:Int)=48) (h2:1 < s.length):((0:Int),false)=nC s:=
 xr (MG (by rw [hm];exact h) (by rw [hm];exact UInt8.toNat_inj.1 (by rw [Int.ofNat_inj.1 (show ((cF t 0).toNat:Int)=(48:Nat) from h1)];rfl)) h2)
theorem Rw {s t:aD} (hm:dL s=t) {i:Nat} (hi:i < t.length) (h:((cF t i).toNat:Int) < 48\/((cF t i).toNat:Int) > 57):((0:Int),false)=nC s:=by
 refine xr ?_
 have:(dL s).all jx=false:=by
  rw [hm];exact UG hi (by unfold jx;simp;omega)
 unfold lu
 split
 ·rfl
 ·rw [if_neg (by rw [this];decide)]
theorem Rx {c:UInt8} (h:(48:Int)<=(c.toNat:Int)) (h':(c.toNat:Int)<=57):jx c=true:=by unfold jx;simp;omega
theorem yV {s:aD} {i:Nat} (h:i < s.length) (h18:s.length<=18) (hd:∀j,j < i->jx (cF s j)=true):kA (s.take i) < 100000000000000000:=by
 refine Nat.lt_of_lt_of_le (K9 i _ (by simp;omega) fun c hc => ?_) (Nat.le_trans (Nat.pow_le_pow_right (by decide) (show i<=17 by omega)) (by decide))
 obtain ⟨k,hk,rfl⟩:=List.getElem_of_mem hc
 rw [List.length_take] at hk
 have:=hd k (by omega)
 rw [List.getElem_take]
 rw [tl (List.getElem?_eq_getElem (show k < s.length by omega))] at this
 simpa [jx] using this
theorem Hl {s t:aD} (hm:dL s=t) {i:Nat} (hi:i < t.length) (h:(48:Int)<=((cF t i).toNat:Int)) (h':((cF t i).toNat:Int)<=57) {x1 x2:Int} (q1:x1=10 * (kA (List.take i (dL s)):Int))
  (q2:x2=IntKind.wrap IntKind.u8 (((cF t i).toNat:Int) - 48)):x1 + x2=(kA (List.take (i + 1) (dL s)):Int)/\0<=x2/\x2<=9:=by
 have hw:IntKind.wrap IntKind.u8 (((cF t i).toNat:Int) - 48)=((cF t i).toNat:Int) - 48:=by simp [IntKind.wrap,IntKind.signed,IntKind.bits];omega
 rw [hw] at q2
 rw [hm] at q1 ⊢
 rw [O7 hi]
 omega
theorem Hm {s t:aD} (hm:dL s=t) (h1:¬ t.length < 1) (h18:t.length<=18) (h0:((cF t 0).toNat:Int)=48->¬ 1 < s.length) {i:Nat} (hi:¬ i < t.length) (hd:∀j,j < i->jx (cF (dL s) j)=true) :
  lu s=some (if t.length < s.length then -(kA (List.take i (dL s)):Int) else (kA (List.take i (dL s)):Int)):=by
 subst hm
 rw [Tx h1 (by omega) (fun h=>h0 (by rw [h.1];rfl) h.2),if_pos (UH fun j hj=>hd j (by omega)),List.take_of_length_le (by omega)]
theorem Ry {s t:aD} (hm:dL s=t) (h1:¬ t.length < 1) (h18:t.length<=18) (h0:((cF t 0).toNat:Int)=48->¬ 1 < s.length) {i:Nat} (hi:¬ i < t.length) (hd:∀j,j < i->jx (cF (dL s) j)=true) (hl:t.length < s.length) :
  ((0:Int) - (kA (List.take i (dL s)):Int),true)=nC s:=by
 have:=Hm hm h1 h18 h0 hi hd
 rw [if_pos hl] at this
 rw [<-Ee this,Int.zero_sub]
theorem Rz {s t:aD} (hm:dL s=t) (h1:¬ t.length < 1) (h18:t.length<=18) (h0:((cF t 0).toNat:Int)=48->¬ 1 < s.length) {i:Nat} (hi:¬ i < t.length) (hd:∀j,j < i->jx (cF (dL s) j)=true) (hl:¬ t.length < s.length) :
  ((kA (List.take i (dL s)):Int),true)=nC s:=by
 have:=Hm hm h1 h18 h0 hi hd
 rw [if_neg hl] at this
 rw [<-Ee this]
theorem BR {s:aD} {i:Nat} (h:i < s.length):List.drop i (List.take (Int.toNat ((i:Int) + 1)) s) = [cF s i]:=by
 rw [show Int.toNat ((i:Int) + 1)=i + 1 by omega,qo h,List.drop_append_of_le_length (by simp;omega),List.drop_eq_nil_of_le (by simp;omega)];rfl
theorem Lf {c d:UInt8} {n:Nat} (h:(c.toNat:Int)=n) (hd:d.toNat=n):c=d:=UInt8.toNat_inj.1 (by omega)
theorem Lg {c d:UInt8} {n:Nat} (h:¬ (c.toNat:Int)=n) (hd:d.toNat=n):¬ c=d:=fun e=>h (by rw [e];omega)
end Go.Mrl

namespace Go.Mrl
open Go.Vg
abbrev S3:=Unit × List (List UInt8) × List Int × List (D aN) × List (D aO) × (Bool × Unit) × Unit
def RA (x:S3):D aA:=(x.2.1,x.2.2.1,x.2.2.2.1,x.2.2.2.2.1,())
def O9 (p:D aA × Bool):S3:=((),p.1.1,p.1.2.1,p.1.2.2.1,p.1.2.2.2.1,(p.2,()),())
theorem Hn (s p:aD):(Lib.trimPrefix s p).length<=s.length:=by unfold Lib.trimPrefix;split <;> simp
theorem Lh {s:aD} {w:List aD} (hw:w=parts 32 (Lib.trimPrefix s dZ)) (i:Nat):(nth .str w i).length<=s.length:=by
 by_cases h:i < w.length
 ·have h1:=ie (t:=.str) h
  rw [hw] at h1
  have:=lR _ _ _ h1
  rw [<-hw] at this
  exact Nat.le_trans this (Hn _ _)
 ·unfold nth;rw [List.getD_eq_getElem?_getD,List.getElem?_eq_none (by omega)];exact Nat.zero_le _
theorem RB {s:aD} {w:List aD} (hw:w=parts 32 (Lib.trimPrefix s dZ)):0 < w.length:=by rw [hw];exact List.length_pos_iff.2 (rG _ _)
theorem gR {c:Bool} {P:Prop} (q:c=true ↔ P) (h:c=false):¬ P:=fun p=>by rw [q.2 p] at h;cases h
section
variable {o:D aA} {b:Bool} {s:aD} {w:List aD} (hw:w=parts 32 (Lib.trimPrefix s dZ))
include hw
theorem MH (h:nth .str w 0=gD/\w.length=2):gO o b s=(ly o (nth .str w 1),b):=by
 unfold gO;simp only;rw [<-hw,if_pos h]
theorem MI (h0:¬ (nth .str w 0=gD/\w.length=2)) (h:nth .str w 0=fZ/\w.length=2):gO o b s=(lz o (dP (nth .str w 1)).1,b || (dB (nth .str w 1)).isNone):=by
 unfold gO;simp only;rw [<-hw,if_neg h0,if_pos h]
theorem Pa (h0:¬ (nth .str w 0=gD/\w.length=2)) (h1:¬ (nth .str w 0=fZ/\w.length=2)) (h:nth .str w 0=eR/\w.length=3) :
  gO o b s=(pf o (nth .str w 1,(dP (nth .str w 2)).1,Lib.hasPrefix s dZ,()),b || (dB (nth .str w 2)).isNone):=by
 unfold gO;simp only;rw [<-hw,if_neg h0,if_neg h1,if_pos h]
theorem MJ (h0:¬ (nth .str w 0=gD/\w.length=2)) (h1:¬ (nth .str w 0=fZ/\w.length=2)) (h2:¬ (nth .str w 0=eR/\w.length=3)) (h:nth .str w 0=je/\w.length=3) :
  gO o b s=(jN o ((dP (nth .str w 1)).1,1,(dP (nth .str w 2)).1,[],false,()),(b || (dB (nth .str w 1)).isNone) || (dB (nth .str w 2)).isNone):=by
 unfold gO;simp only;rw [<-hw,if_neg h0,if_neg h1,if_neg h2,if_pos h]
theorem Ef (h0:¬ (nth .str w 0=gD/\w.length=2)) (h1:¬ (nth .str w 0=fZ/\w.length=2)) (h2:¬ (nth .str w 0=eR/\w.length=3)) (h3:¬ (nth .str w 0=je/\w.length=3))
  (h:(nth .str w 0=gQ\/nth .str w 0=iu)/\w.length=4) {k:Int} (hk:k=if nth .str w 0=iu then 3 else 2) :
  gO o b s=(jN o ((dP (nth .str w 1)).1,k,(dP (nth .str w 2)).1,nth .str w 3,Lib.hasPrefix s dZ,()),(b || (dB (nth .str w 1)).isNone) || (dB (nth .str w 2)).isNone):=by
 unfold gO;simp only;rw [<-hw,if_neg h0,if_neg h1,if_neg h2,if_neg h3,if_pos h,hk]
theorem MK (h0:¬ (nth .str w 0=gD/\w.length=2)) (h1:¬ (nth .str w 0=fZ/\w.length=2)) (h2:¬ (nth .str w 0=eR/\w.length=3)) (h3:¬ (nth .str w 0=je/\w.length=3))
  (h:¬ ((nth .str w 0=gQ\/nth .str w 0=iu)/\w.length=4)):gO o b s=(o,true):=by
 unfold gO;simp only;rw [<-hw,if_neg h0,if_neg h1,if_neg h2,if_neg h3,if_neg h]
end
end Go.Mrl

namespace Go.Mrl
open Go.Vg
noncomputable def mP (s:aD):D aA × bC:=((bP s).1,aT (bP s).2)
theorem ML {s:aD} (h:s.length > 1200):(bO aA,bC.no 2)=mP s:=by unfold mP;rw [xq h];rfl
theorem lA.run {L:List aD} {i:Nat} {o:D aA} {b:Bool} (h:lA L i o b) (hi:¬ i < L.length):(run pg (bO aA) L=some o/\b=false)\/(run pg (bO aA) L=none/\b=true):=by
 have:=h.st
 rwa [List.take_of_length_le (by omega)] at this
theorem xu {s:aD} {i:Nat} {o:D aA} {b:Bool} (h:lA (parts 10 (Lib.trimSuffix s [10])) i o b) (hi:¬ i < (parts 10 (Lib.trimSuffix s [10])).length) (hl:¬ s.length > 1200)
  (hb:b=true\/(ku o).2.isNil=false\/¬ (ku o).1=s):(bO aA,bC.no 4)=mP s:=by
 have:bP s=(bO aA,4):=by
  rcases h.run hi with ⟨hr,h0⟩ | ⟨hr,h0⟩
  ·rcases hb with hb | hb | hb
   ·rw [hb] at h0;cases h0
   ·refine BM hl hr fun hf ht => ?_
    rw [u6 hf rfl (by show (eU o).length<=1200;rw [ht];omega)] at hb
    cases hb
   ·refine BM hl hr fun hf ht=>hb ?_
    rw [u6 hf rfl (by show (eU o).length<=1200;rw [ht];omega)]
    exact ht
  ·exact MA hl hr
 unfold mP;rw [this];rfl
theorem RC {s:aD} {o:D aA} (hl:¬ s.length > 1200)
  (hn:(ku o).2.isNil=true) (ht:(ku o).1=s):(o,bC.nil)=mP s:=by
 have hf:cB o=0:=by
  apply Classical.byContradiction;intro hf
  rw [D6 hf] at hn
  exact hf (bJ.1 hn)
 have hs:eU o=s:=by
  by_cases h:(eU o).length > 1200
  ·rw [BH hf rfl h] at hn;cases hn
  ·rw [u6 hf rfl (by show (eU o).length<=1200;omega)] at ht;exact ht
 unfold mP;rw [CY hl hf hs];rfl
theorem yf (s p:aD):(Lib.trimSuffix s p).length<=s.length:=by unfold Lib.trimSuffix;split <;> simp
theorem Pb (s:aD) (h:s.length<=1200):(parts 10 (Lib.trimSuffix s [10])).length<=1201:=by
 have h1:=qm 10 (Lib.trimSuffix s [10])
 have h2:(Lib.trimSuffix s [10]).length<=s.length:=by unfold Lib.trimSuffix;split <;> simp
 omega
theorem MM {s:aD} (h:s.length<=1200) (i:Nat):(nth .str (parts 10 (Lib.trimSuffix s [10])) i).length<=1200:=by
 by_cases hi:i < (parts 10 (Lib.trimSuffix s [10])).length
 ·have:=lR _ _ _ (ie (t:=.str) hi)
  have h2:(Lib.trimSuffix s [10]).length<=s.length:=by unfold Lib.trimSuffix;split <;> simp
  omega
 ·unfold nth;rw [List.getD_eq_getElem?_getD,List.getElem?_eq_none (by omega)];exact Nat.zero_le _
end Go.Mrl

namespace Go.Mrl
open Go.Vg
structure ld (L:List aD) (i:Nat) (o:D aA):Prop where
 le:i<=L.length
 st:run kv (bO aA) (L.take i)=some o
 l1:o.1.length<=i
 l2:o.2.1.length<=i
 l3:o.2.2.1.length<=i
 l4:o.2.2.2.1.length<=i
theorem ld.zero (L:List aD):ld L 0 (bO aA):=⟨Nat.zero_le _,rfl,Nat.le_refl _,Nat.le_refl _,Nat.le_refl _,Nat.le_refl _⟩
structure oA (o p:D aA):Prop where
 l1:p.1.length<=o.1.length + 1
 l2:p.2.1.length<=o.2.1.length + 1
 l3:p.2.2.1.length<=o.2.2.1.length + 1
 l4:p.2.2.2.1.length<=o.2.2.2.1.length + 1
theorem yg {α:Type} (l:List α) (x:α):(l++[x]).length<=l.length + 1:=by simp
theorem oA.rI (o:D aA) (s:aD):oA o (ly o s):=⟨yg _ _,Nat.le_succ _,Nat.le_succ _,Nat.le_succ _⟩
theorem oA.word (o:D aA) (n:Int):oA o (lz o n):=⟨Nat.le_succ _,yg _ _,Nat.le_succ _,Nat.le_succ _⟩
theorem oA.sym (o:D aA) (y:D aN):oA o (pf o y):=⟨Nat.le_succ _,Nat.le_succ _,yg _ _,Nat.le_succ _⟩
theorem oA.tie (o:D aA) (t:D aO):oA o (jN o t):=⟨Nat.le_succ _,Nat.le_succ _,Nat.le_succ _,yg _ _⟩
theorem ld.next {L:List aD} {i:Nat} {o p:D aA} (h:ld L i o) (hi:i < L.length) (hl:kv o (nth .str L i)=some p) (hm:oA o p):ld L (i + 1) p:=by
 have a1:=h.l1;have a2:=h.l2;have a3:=h.l3;have a4:=h.l4
 have b1:=hm.l1;have b2:=hm.l2;have b3:=hm.l3;have b4:=hm.l4
 refine ⟨hi,?_,by omega,by omega,by omega,by omega⟩
 rw [iK (t:=.str) hi,As,h.st,Option.bind_some];exact hl
theorem ld.fail {L:List aD} {i:Nat} {o:D aA} (h:ld L i o) (hi:i < L.length) (hl:kv o (nth .str L i)=none):run kv (bO aA) L=none:=by
 have:=tP (m:=L.drop i) h.st
 rw [List.take_append_drop,gY (t:=.str) hi] at this
 rw [this];simp only [run];rw [hl]
theorem ld.done {L:List aD} {i:Nat} {o:D aA} (h:ld L i o) (hi:¬ i < L.length):run kv (bO aA) L=some o:=by
 have:=h.st
 rwa [List.take_of_length_le (by omega)] at this
theorem Pc {w:List aD} (h:w.length=2):w = [nth .str w 0,nth .str w 1]:=by
 match w,h with
 | [a,b],_=>rfl
theorem Ho {w:List aD} (h:w.length=3):w = [nth .str w 0,nth .str w 1,nth .str w 2]:=by
 match w,h with
 | [a,b,c],_=>rfl
theorem Li {w:List aD} (h:w.length=4):w = [nth .str w 0,nth .str w 1,nth .str w 2,nth .str w 3]:=by
 match w,h with
 | [a,b,c,d],_=>rfl
def eB (w:List aD) (k:Nat):List Int:=(List.range (k - 1)).map fun i=>mh (nth .str w (i + 1))
theorem Eg (w:List aD) (k:Nat):(eB w k).length=k - 1:=by simp [eB]
theorem BS {w:List aD} {k:Nat} (h:1<=k):eB w (k + 1)=eB w k++[mh (nth .str w k)]:=by
 obtain ⟨m,rfl⟩:∃m,k=m + 1:=⟨k - 1,by omega⟩
 simp [eB,List.range_succ]
theorem lD {w:List aD} {k i:Nat} (h:i + 1 < k):(nth (.int .i64) (eB w k) i:Int)=mh (nth .str w (i + 1)):=by
 apply fO;simp [eB,show i < k - 1 by omega]
theorem Tz {s:aD} (h:fW s=true):cJ s=mh s:=by
 unfold fW nC at h;unfold cJ nC mh
 cases hn:lu s with
 | none=>rw [hn] at h;cases h
 | some n=>rfl
theorem RD {s:aD} (h:fW s=false):(-1099511627776:Int)=mh s:=by
 unfold fW nC at h;unfold mh
 cases hn:lu s with
 | none=>rfl
 | some n=>rw [hn] at h;cases h
theorem Hp {w:List aD} {k:Nat} (h:1<=k) (hn:fW (nth .str w k)=true):eB w k++[cJ (nth .str w k)]=eB w (k + 1):=by rw [BS h,Tz hn]
theorem Eh {w:List aD} {k:Nat} (h:1<=k) (hn:fW (nth .str w k)=false):eB w k++[(-1099511627776:Int)]=eB w (k + 1):=by rw [BS h,<-RD hn]
section
variable {o:D aA} {b:Bool} {w:List aD} {k:Nat}
theorem JA (h:w.length=2/\nth .str w 0=gD):il o b w=some (ly o (nth .str w 1)):=by
 rw [Pc h.1];show (if nth .str w 0=gD then _ else _)=_;rw [if_pos h.2];rfl
theorem JB (h0:¬ (w.length=2/\nth .str w 0=gD)) (h:w.length=2/\nth .str w 0=fZ) (hk:1 < k):il o b w=some (lz o (nth (.int .i64) (eB w k) 0)):=by
 rw [lD (by omega),Pc h.1]
 show (if nth .str w 0=gD then _ else if nth .str w 0=fZ then _ else _)=_
 rw [if_neg fun e=>h0 ⟨h.1,e⟩,if_pos h.2];rfl
theorem MN (h:w.length=3/\nth .str w 0=eR) (hk:2 < k):il o b w=some (pf o (nth .str w 1,nth (.int .i64) (eB w k) 1,b,())):=by
 rw [lD (by omega),Ho h.1]
 show (if nth .str w 0=eR then _ else _)=_
 rw [if_pos h.2];rfl
theorem JC (h0:¬ (w.length=3/\nth .str w 0=eR)) (h:w.length=3/\nth .str w 0=je) (hk:2 < k):il o b w=some (jN o (nth (.int .i64) (eB w k) 0,1,nth (.int .i64) (eB w k) 1,[],b,())):=by
 rw [lD (by omega),lD (by omega),Ho h.1]
 show (if nth .str w 0=eR then _ else if nth .str w 0=je then _ else _)=_
 rw [if_neg fun e=>h0 ⟨h.1,e⟩,if_pos h.2];rfl
theorem Hq (h:w.length=4/\nth .str w 0=gQ) (hk:2 < k):il o b w=some (jN o (nth (.int .i64) (eB w k) 0,2,nth (.int .i64) (eB w k) 1,nth .str w 3,b,())):=by
 rw [lD (by omega),lD (by omega),Li h.1]
 show (if nth .str w 0=gQ then _ else _)=_
 rw [if_pos h.2];rfl
theorem JD (h0:¬ (w.length=4/\nth .str w 0=gQ)) (h:w.length=4/\nth .str w 0=iu) (hk:2 < k):il o b w=some (jN o (nth (.int .i64) (eB w k) 0,3,nth (.int .i64) (eB w k) 1,nth .str w 3,b,())):=by
 rw [lD (by omega),lD (by omega),Li h.1]
 show (if nth .str w 0=gQ then _ else if nth .str w 0=iu then _ else _)=_
 rw [if_neg fun e=>h0 ⟨h.1,e⟩,if_pos h.2];rfl
theorem JE (h0:¬ (w.length=2/\nth .str w 0=gD)) (h1:¬ (w.length=2/\nth .str w 0=fZ)) (h2:¬ (w.length=3/\nth .str w 0=eR)) (h3:¬ (w.length=3/\nth .str w 0=je))
  (h4:¬ (w.length=4/\nth .str w 0=gQ)) (h5:¬ (w.length=4/\nth .str w 0=iu)):il o b w=none:=by
 match w with
 | []=>rfl
 | [_]=>rfl
 | [a,x]=>show (if a=gD then _ else if a=fZ then _ else _)=_;rw [if_neg (show ¬ a=gD from fun e=>h0 ⟨rfl,e⟩),if_neg (show ¬ a=fZ from fun e=>h1 ⟨rfl,e⟩)]
 | [a,x,y]=>show (if a=eR then _ else if a=je then _ else _)=_;rw [if_neg (show ¬ a=eR from fun e=>h2 ⟨rfl,e⟩),if_neg (show ¬ a=je from fun e=>h3 ⟨rfl,e⟩)]
 | [a,x,y,z]=>show (if a=gQ then _ else if a=iu then _ else _)=_;rw [if_neg (show ¬ a=gQ from fun e=>h4 ⟨rfl,e⟩),if_neg (show ¬ a=iu from fun e=>h5 ⟨rfl,e⟩)]
 | _ :: _ :: _ :: _ :: _ :: _=>rfl
end
theorem Lj {s:aD} {x:List aD} (hx:x=parts 32 s):yd x=(nth .str x 0 == nq):=by
 have:=rG 32 s
 rw [<-hx] at this
 unfold yd
 match x,this with
 | a :: r,_=>rw [Bool.eq_iff_iff];simp [nth]
theorem Pd {o:D aA} {s:aD} {x w:List aD} (hx:x=parts 32 s) (h:nth .str x 0=nq) (hw:w=x.drop 1):kv o s=il o (nth .str x 0 == nq) w:=by
 unfold kv BJ;rw [<-hx,Lj hx,h,hw];rfl
theorem RE {o:D aA} {s:aD} {x:List aD} (hx:x=parts 32 s) (h:¬ nth .str x 0=nq):kv o s=il o (nth .str x 0 == nq) x:=by
 have:(nth .str x 0 == nq)=false:=by simpa using h
 unfold kv BJ;rw [<-hx,Lj hx,this];rfl
theorem jT {w:List aD} {n:Nat} {m:Int} {a:aD} (h:(w.length:Int)=m) (hm:m=(n:Int)):(nth .str w 0 == a)=true ↔ (w.length=n/\nth .str w 0=a):=by
 simp;omega
theorem jF {w:List aD} {n:Nat} {m:Int} {P:Prop} (h:¬ (w.length:Int)=m) (hm:m=(n:Int)):false=true ↔ (w.length=n/\P):=by
 constructor
 ·intro h;cases h
 ·rintro ⟨h1,_⟩;omega
theorem eT {k n:Nat} (h:(k:Int) < (n:Int)):(decide ((k:Int) < 3))=true ↔ ((k:Int) < (n:Int)/\(k:Int) < 3):=by
 rw [decide_eq_true_eq];omega
theorem eF {k n:Nat} (h:(n:Int)<=(k:Int)):false=true ↔ ((k:Int) < (n:Int)/\(k:Int) < 3):=by
 constructor
 ·intro h;cases h
 ·intro h;omega
theorem vh {k n:Nat} (h:1<=k/\k<=3/\(k=1\/k<=n)) (h':¬ ((k:Int) < (n:Int)/\(k:Int) < 3)):(n=2->k=2)/\(3<=n->k=3):=by omega
theorem UI {c:UInt8} {s:aD} {w:List aD} (h:w=parts c s):0 < w.length:=by rw [h];exact List.length_pos_iff.2 (rG c s)
theorem MO {s:aD} {i:Nat} {o:D aA} (hl:¬ s.length > 1200) (h:ld (eM s) i o) (hi:i < (eM s).length) (hn:kv o (nth .str (eM s) i)=none):((bO aA,4):D aA × Int)=bP s:=
 (MC hl (h.fail hi hn)).symm
theorem xv {s:aD} {i:Nat} {o:D aA} (hl:¬ s.length > 1200) (h:ld (eM s) i o) (hi:¬ i < (eM s).length)
  (hb:cB o > 0\/(kS o).2 > 0\/¬ (kS o).1=s):((bO aA,4):D aA × Int)=bP s:=by
 refine (MD hl (h.done hi) fun hf ht => ?_).symm
 rcases hb with hb | hb | hb
 ·omega
 ·rw [u7 rfl (by show (eU o).length<=1200;rw [ht];omega)] at hb;exact absurd hb (by simp)
 ·rw [u7 rfl (by show (eU o).length<=1200;rw [ht];omega)] at hb;exact hb ht
theorem MP {s:aD} {o:D aA} (hl:¬ s.length > 1200) (hf:cB o<=0) (hn:(kS o).2<=0) (ht:(kS o).1=s):((o,0):D aA × Int)=bP s:=by
 have hf0:cB o=0:=by have:=vQ o;omega
 have hs:eU o=s:=by
  by_cases h:(eU o).length > 1200
  ·rw [BI rfl h] at hn;exact absurd hn (by decide)
  ·rw [u7 rfl (by show (eU o).length<=1200;omega)] at ht;exact ht
 exact (CY hl hf0 hs).symm
theorem Pe {s:aD} (h:s.length > 1200):((bO aA,2):D aA × Int)=bP s:=(xq h).symm
theorem MQ {s:aD} (h:¬ s.length > 1200) (hr:pj s=false):((bO aA,4):D aA × Int)=bP s:=(O3 h hr).symm
theorem RG {s:aD} (h:s.length<=1200):(eM s).length<=1201:=by
 have:=qm 10 s
 unfold eM qw;simp;omega
theorem MR {s:aD} (h:s.length<=1200) (i:Nat):(nth .str (eM s) i).length<=1200:=by
 by_cases hi:i < (eM s).length
 ·have h1:=ie (t:=.str) hi
  have:=lR 10 s _ (List.dropLast_sublist _ |>.subset h1)
  omega
 ·unfold nth;rw [List.getD_eq_getElem?_getD,List.getElem?_eq_none (by omega)];exact Nat.zero_le _
end Go.Mrl

namespace Go.Mrl
open Go.Vg
abbrev Rd:=aD->aD × Int × Int
structure gS (rd:Rd):Prop where
 code:∀s,(rd s).2.2=0\/(rd s).2.2=5
 Pf:∃K:List aD,K.length<=6/\∀s,(rd s).2.2=0->s∈K
def eN (ns l:List aD):List aD:=l.foldl (fun ns s=>if ns.any (· == s)=true then ns else ns++[s]) ns
noncomputable def mu (rd:Rd) (s:aD):D aA:=(bP (rd s).1).1
noncomputable def gL (rd:Rd) (s:aD):Int:=if (rd s).2.2=0 then (bP (rd s).1).2 else (rd s).2.2
noncomputable def rK (rd:Rd):Nat->Nat->List aD->List (D aA)->List aD × List (D aA) × Int
 | 0,_,ns,os=>(ns,os,0)
 | k + 1,i,ns,os=>
  if i < ns.length then
   if gL rd (nth .str ns i)=0 then rK rd k (i + 1) (eN ns (mu rd (nth .str ns i)).1) (os++[mu rd (nth .str ns i)])
   else ([],[],gL rd (nth .str ns i))
  else (ns,os,0)
noncomputable def aR (rd:Rd) (root:aD):List aD × List (D aA) × Int:=rK rd 7 0 [root] []
theorem BT (s:aD):((bP s).2=0/\cB (bP s).1=0/\eU (bP s).1=s)\/bP s=(bO aA,2)\/bP s=(bO aA,4):=by
 by_cases h:s.length > 1200
 ·exact .inr (.inl (xq h))
 ·by_cases h2:∃o:D aA,cB o=0/\eU o=s
  ·obtain ⟨o,h3,h4⟩:=h2
   rw [CY h h3 h4];exact .inl ⟨rfl,h3,h4⟩
  ·exact .inr (.inr (pK h fun o h3 h4=>h2 ⟨o,h3,h4⟩))
theorem nT (s:aD):0<=(bP s).2:=by
 rcases BT s with ⟨h,_⟩ | h | h <;> rw [h] <;> decide
theorem qM {s:aD} (h:(bP s).2=0):cB (bP s).1=0:=by
 rcases BT s with ⟨_,h,_⟩ | h' | h'
 ·exact h
 ·rw [h'] at h;cases h
 ·rw [h'] at h;cases h
theorem C0 {rd:Rd} (h:gS rd) (s:aD):0<=gL rd s:=by
 unfold gL
 split
 ·exact nT _
 ·rcases h.code s with e | e <;> rw [e] <;> decide
theorem pk {rd:Rd} (h:gS rd) {s:aD} (e:gL rd s=0):(rd s).2.2=0/\(bP (rd s).1).2=0:=by
 unfold gL at e
 rcases h.code s with c | c
 ·rw [if_pos c] at e;exact ⟨c,e⟩
 ·rw [if_neg (by rw [c];decide),c] at e;cases e
theorem xw {rd:Rd} {s:aD} (e:¬ (rd s).2.2=0):gL rd s=(rd s).2.2:=by unfold gL;rw [if_neg e]
theorem s0 {rd:Rd} {s:aD} (e:(rd s).2.2=0):gL rd s=(bP (rd s).1).2:=by unfold gL;rw [if_pos e]
theorem RH (ns:List aD):eN ns []=ns:=rfl
theorem xx (ns l:List aD) (s:aD):eN ns (s :: l)=eN (if ns.any (· == s)=true then ns else ns++[s]) l:=rfl
theorem Pg (ns l:List aD) (s:aD):eN ns (l++[s])=if (eN ns l).any (· == s)=true then eN ns l else eN ns l++[s]:=by
 unfold eN;rw [List.foldl_append];rfl
theorem Lk {ns:List aD} {s:aD}:ns.any (· == s)=true ↔ s∈ns:=by
 rw [List.any_eq_true]
 constructor
 ·rintro ⟨x,hx,e⟩;rw [<-(by simpa using e:x=s)];exact hx
 ·intro h;exact ⟨s,h,by simp⟩
theorem pL:∀(l ns:List aD),∃r,eN ns l=ns++r/\r.length<=l.length/\∀s∈r,s∈l
 | [],ns=>⟨[],by simp [RH],by simp,by simp⟩
 | x :: l,ns=>by
  rw [xx]
  split
  ·obtain ⟨r,h1,h2,h3⟩:=pL l ns
   exact ⟨r,h1,by simp;omega,fun s hs=>by simp [h3 s hs]⟩
  ·obtain ⟨r,h1,h2,h3⟩:=pL l (ns++[x])
   refine ⟨x :: r,by rw [h1];simp,by simp;omega,fun s hs => ?_⟩
   rcases List.mem_cons.1 hs with rfl | hs
   ·simp
   ·simp [h3 s hs]
theorem vj:∀(l ns:List aD),ns.Nodup->(eN ns l).Nodup
 | [],ns,h=>h
 | x :: l,ns,h=>by
  rw [xx]
  split
  ·exact vj l ns h
  ·rename_i hx
   refine vj l _ ?_
   rw [List.nodup_append]
   refine ⟨h,by simp,fun a ha b hb e=>hx (Lk.2 ?_)⟩
   simp at hb;subst hb;exact e▸ha
theorem Hr:∀(l ns:List aD),∀s∈l,s∈eN ns l
 | [],_,s,h=>by simp at h
 | x :: l,ns,s,h=>by
  rw [xx]
  rcases List.mem_cons.1 h with rfl | h
  ·split
   ·rename_i hx
    obtain ⟨r,h1,_⟩:=pL l ns
    rw [h1];exact List.mem_append_left _ (Lk.1 hx)
   ·obtain ⟨r,h1,_⟩:=pL l (ns++[s])
    rw [h1];simp
  ·exact Hr l _ s h
theorem Ei {ns l:List aD} {i:Nat} (h:i < l.length):eN ns (l.take (i + 1))=if (eN ns (l.take i)).any (· == nth .str l i)=true then eN ns (l.take i) else eN ns (l.take i)++[nth .str l i]:=by
 rw [iK (t:=.str) h,Pg]
theorem sC {t:Ty} {a b:List (D t)} {i:Nat} (h:i < a.length):nth t (a++b) i=nth t a i:=by rw [o7,if_pos h]
structure jO (rd:Rd) (root:aD) (i:Nat) (ns:List aD) (os:List (D aA)):Prop where
 eq:rK rd (7 - i) i ns os=aR rd root
 le:i<=6
 lo:i<=ns.length
 pos:0 < ns.length
 len:os.length=i
 hi:ns.length<=1 + 4 * i
 head:nth .str ns 0=root
 nd:ns.Nodup
 Hs:∀j,j < i->gL rd (nth .str ns j)=0/\nth aA os j=mu rd (nth .str ns j)
 want:∀j,j < ns.length->j≠0->∃k,k < i/\k < j/\nth .str ns j∈(nth aA os k).1
 rI:∀j,j < i->∀s∈(nth aA os j).1,s∈ns
theorem jO.zero (rd:Rd) (root:aD):jO rd root 0 [root] []:=
 ⟨rfl,by omega,by simp,by simp,rfl,by simp,rfl,by simp,fun j h=>by omega,fun j h h'=>by simp at h;omega,fun j h=>by omega⟩
theorem jO.room {rd:Rd} {root:aD} {i:Nat} {ns:List aD} {os:List (D aA)} (ok:gS rd) (h:jO rd root i ns os) (hi:i < ns.length) (hf:gL rd (nth .str ns i)=0):i + 1<=6:=by
 obtain ⟨K,hK,hm⟩:=ok.Pf
 have hsub:∀y∈ns.take (i + 1),y∈K:=by
  intro y hy
  obtain ⟨j,hj,rfl⟩:=kf (t:=.str) hy
  rw [List.length_take] at hj
  rw [GU (t:=.str) (by omega)]
  refine hm _ (pk ok ?_).1
  rcases Nat.lt_or_ge j i with hl | hl
  ·exact (h.Hs j hl).1
  ·rw [show j=i by omega];exact hf
 have:=w6 (h.nd.sublist (List.take_sublist (i + 1) ns)) hsub
 rw [List.length_take] at this
 omega
theorem jO.fuel {rd:Rd} {root:aD} {i:Nat} {ns:List aD} {os:List (D aA)} (h:jO rd root i ns os):rK rd (6 - i + 1) i ns os=aR rd root:=by
 rw [<-h.eq];congr 1;have:=h.le;omega
theorem jO.bad {rd:Rd} {root:aD} {i:Nat} {ns:List aD} {os:List (D aA)} (h:jO rd root i ns os) (hi:i < ns.length) (hf:¬ gL rd (nth .str ns i)=0) :
  aR rd root=([],[],gL rd (nth .str ns i)):=by
 rw [<-h.fuel,rK,if_pos hi,if_neg hf]
theorem jO.done {rd:Rd} {root:aD} {i:Nat} {ns:List aD} {os:List (D aA)} (h:jO rd root i ns os) (hi:¬ i < ns.length):aR rd root=(ns,os,0):=by
 rw [<-h.fuel,rK,if_neg hi]
theorem Av {rd:Rd} (ok:gS rd) {s:aD} (hf:gL rd s=0):jY (mu rd s):=gC (qM (pk ok hf).2)
theorem jO.next {rd:Rd} {root:aD} {i:Nat} {ns:List aD} {os:List (D aA)} (ok:gS rd) (h:jO rd root i ns os) (hi:i < ns.length) (hf:gL rd (nth .str ns i)=0) :
  jO rd root (i + 1) (eN ns (mu rd (nth .str ns i)).1) (os++[mu rd (nth .str ns i)]):=by
 have hr:=h.room ok hi hf
 have ho:=Av ok hf
 obtain ⟨r,h1,h2,h3⟩:=pL (mu rd (nth .str ns i)).1 ns
 have hn4:=ho.n4
 have hlen:=h.len
 have hhi:=h.hi
 have hpos:=h.pos
 have hos:nth aA (os++[mu rd (nth .str ns i)]) i=mu rd (nth .str ns i):=by rw [o7,if_neg (by omega),h.len,Nat.sub_self];rfl
 have hns:∀j,j < ns.length->nth .str (eN ns (mu rd (nth .str ns i)).1) j=nth .str ns j:=fun j hj=>by rw [h1,sC (t:=.str) hj]
 have hoj:∀j,j < i->nth aA (os++[mu rd (nth .str ns i)]) j=nth aA os j:=fun j hj=>sC (t:=aA) (by omega)
 refine ⟨?_,hr,by rw [h1,List.length_append];omega,by rw [h1,List.length_append];omega,by rw [List.length_append,h.len];rfl,by rw [h1,List.length_append];omega,
  by rw [hns 0 hpos];exact h.head,vj _ _ h.nd,fun j hj => ?_,fun j hj h0 => ?_,fun j hj s hs => ?_⟩
 ·rw [<-h.fuel,rK,if_pos hi,if_pos hf];congr 1;omega
 ·rcases Nat.lt_or_ge j i with hl | hl
  ·rw [hns j (by omega),hoj j hl];exact h.Hs j hl
  ·rw [show j=i by omega,hns i hi,hos];exact ⟨hf,rfl⟩
 ·rcases Nat.lt_or_ge j ns.length with hl | hl
  ·obtain ⟨k,k1,k2,k3⟩:=h.want j hl h0
   exact ⟨k,by omega,k2,by rw [hns j hl,hoj k k1];exact k3⟩
  ·refine ⟨i,by omega,by omega,?_⟩
   rw [hos,h1,o7,if_neg (by omega)]
   refine h3 _ (ie (t:=.str) ?_)
   rw [h1,List.length_append] at hj;omega
 ·rcases Nat.lt_or_ge j i with hl | hl
  ·rw [hoj j hl] at hs
   rw [h1];exact List.mem_append_left _ (h.rI j hl s hs)
  ·rw [show j=i by omega,hos] at hs
   exact Hr _ _ s hs
structure Scope (rd:Rd) (root:aD) (ns:List aD) (os:List (D aA)):Prop where
 le:ns.length<=6
 pos:0 < ns.length
 len:os.length=ns.length
 head:nth .str ns 0=root
 nd:ns.Nodup
 Hs:∀j,j < ns.length->gL rd (nth .str ns j)=0/\nth aA os j=mu rd (nth .str ns j)
 want:∀j,j < ns.length->j≠0->∃k,k < j/\nth .str ns j∈(nth aA os k).1
 rI:∀j,j < ns.length->∀s∈(nth aA os j).1,s∈ns
theorem BU {rd:Rd} {root:aD} (ok:gS rd):∀(m i:Nat) (ns:List aD) (os:List (D aA)),m=7 - i->jO rd root i ns os->
  (∃f,0 < f/\aR rd root=([],[],f))\/(∃ns os,aR rd root=(ns,os,0)/\Scope rd root ns os)
 | 0,i,ns,os,hm,h=>by have:=h.le;omega
 | m + 1,i,ns,os,hm,h=>by
  by_cases hi:i < ns.length
  ·by_cases hf:gL rd (nth .str ns i)=0
   ·exact BU ok m (i + 1) _ _ (by omega) (h.next ok hi hf)
   ·have:=C0 ok (nth .str ns i)
    exact .inl ⟨_,by omega,h.bad hi hf⟩
  ·have h1:=h.lo
   have h2:=h.le
   have e:i=ns.length:=by omega
   subst e
   exact .inr ⟨ns,os,h.done hi,h2,h.pos,h.len,h.head,h.nd,h.Hs,fun j hj h0=>let ⟨k,_,k2,k3⟩:=h.want j hj h0;⟨k,k2,k3⟩,h.rI⟩
theorem s3 {rd:Rd} (ok:gS rd) (root:aD):(∃f,0 < f/\aR rd root=([],[],f))\/(∃ns os,aR rd root=(ns,os,0)/\Scope rd root ns os):=
 BU ok 7 0 _ _ rfl (jO.zero rd root)
theorem vk {rd:Rd} (ok:gS rd) {root:aD} (h:(aR rd root).2.2=0):Scope rd root (aR rd root).1 (aR rd root).2.1:=by
 rcases s3 ok root with ⟨f,hf,e⟩ | ⟨ns,os,e,h'⟩
 ·rw [e] at h;simp only at h;omega
 ·rw [e];exact h'
theorem cD.rd {x:ja} {r:RS} (h:cD x r):bH x=bG r.1:=funext h.read
theorem kT {x:ja} (h:x.2.1.1.length<=6):gS (bH x):=by
 refine ⟨fun s => ?_,x.2.1.1.map kz,by rw [List.length_map];exact h,fun s hs => ?_⟩
 ·unfold bH;split
  ·exact .inl rfl
  ·exact .inr rfl
 ·by_cases c:fU eQ x.2.1.1 s=true
  ·obtain ⟨y,hy,e⟩:=pI.1 c
   rw [<-e];exact List.mem_map_of_mem hy
  ·rw [su (by simpa using c)] at hs;cases hs
theorem cS {r:RS} (h:r.1.length<=6):gS (bG r.1):=by
 refine ⟨BB r.1,r.1.map hY,by rw [List.length_map];exact h,fun s hs => ?_⟩
 by_cases c:∃y∈r.1,y.1=s
 ·obtain ⟨y,hy,e⟩:=c
  rw [<-e];exact List.mem_map_of_mem hy
 ·rw [uS fun y hy e=>c ⟨y,hy,e⟩] at hs;cases hs
end Go.Mrl

namespace Go.Mrl
open Go.Vg
section
variable {rd:Rd} {root:aD} {i:Nat} {ns:List aD} {os:List (D aA)}
theorem jO.Ht (ok:gS rd) (h:jO rd root i ns os) (hi:i < ns.length) (he:¬ (rd (nth .str ns i)).2.2=0) :
  aR rd root=([],[],(rd (nth .str ns i)).2.2):=by
 rw [h.bad hi (by rw [xw he];exact he),xw he]
theorem jO.Ll (h:jO rd root i ns os) (hi:i < ns.length) (he:(rd (nth .str ns i)).2.2=0) (ho:¬ (bP (rd (nth .str ns i)).1).2=0) :
  aR rd root=([],[],(bP (rd (nth .str ns i)).1).2):=by
 rw [h.bad hi (by rw [s0 he];exact ho),s0 he]
theorem q8 {s:aD} (he:(rd s).2.2=0) (ho:(bP (rd s).1).2=0):gL rd s=0:=by rw [s0 he];exact ho
theorem jO.UJ (h:jO rd root i ns os):os.length + 1<=1000000000:=by have:=h.len;have:=h.le;omega
theorem jO.Ph (h:jO rd root i ns os) (ok:gS rd) {s:aD} (hf:gL rd s=0) (k:Nat):(eN ns (List.take k (mu rd s).1)).length + 1<=1000000000:=by
 obtain ⟨r,h1,h2,_⟩:=pL (List.take k (mu rd s).1) ns
 have:=(Av ok hf).n4
 have:=h.hi
 have:=h.le
 rw [h1,List.length_append]
 rw [List.length_take] at h2
 omega
theorem yh {l:List aD} {k:Nat} (h:k < l.length) (hn:(eN ns (l.take k)).any (fun x=>x == nth .str l k)=false):eN ns (l.take k)++[nth .str l k]=eN ns (l.take (k + 1)):=by
 rw [Ei h,if_neg (by rw [hn];exact Bool.false_ne_true)]
theorem yi {l:List aD} {k:Nat} (h:k < l.length) (hn:(eN ns (l.take k)).any (fun x=>x == nth .str l k)=true):eN ns (l.take k)=eN ns (l.take (k + 1)):=by
 rw [Ei h,if_pos hn]
theorem yj {l:List aD} {k:Nat} (h:¬ k < l.length):eN ns (l.take k)=eN ns l:=by rw [List.take_of_length_le (by omega)]
theorem sE (ok:gS rd) {s:aD} (h:(rd s).2.2<=0):(rd s).2.2=0:=by
 rcases ok.code s with e | e <;> omega
theorem C1 {s:aD} (h:(bP s).2<=0):(bP s).2=0:=by have:=nT s;omega
theorem RI {l:List aD} {j:Nat} {y:aD} (h:(l.take j).any (fun x=>x == y)=true):true=(l.take (j + 1)).any (fun x=>x == y):=by
 obtain ⟨x,hx,e⟩:=List.any_eq_true.1 h
 exact (List.any_eq_true.2 ⟨x,(List.take_sublist_take_left (Nat.le_succ j)).subset hx,e⟩).symm
theorem RJ {l:List aD} {j:Nat} {y:aD} (hj:j < l.length) (h:(l.take j).any (fun x=>x == y)=false):(nth .str l j == y)=(l.take (j + 1)).any (fun x=>x == y):=by
 rw [iK (t:=.str) hj,List.any_append,h];simp
theorem yk {l:List aD} {j:Nat} {y:aD} {b:Bool} (hj:¬ j < l.length) (h:(l.take j).any (fun x=>x == y)=b):l.any (fun x=>x == y)=b:=by
 rwa [List.take_of_length_le (by omega)] at h
end
end Go.Mrl

namespace Go.Mrl
open Go.Vg
end Go.Mrl
namespace Go.Mrl
open Go.Vg
end Go.Mrl

namespace Go.Mrl
open Go.Vg
end Go.Mrl

namespace Go.Mrl
open Go.Vg
def cC (l:List (D aA)):List Int:=l.map fun o=>(o.2.1.length:Int)
def bU (l:List (D aA)):Ws:=l.map fun o=>o.2.1
theorem BV (l:List (D aA)):(cC l).length=l.length:=by simp [cC]
theorem lS (l:List (D aA)):(bU l).length=l.length:=by simp [bU]
theorem q9 {t u:Ty} {f:D u->D t} {l:List (D u)} {i:Nat} (h:i < l.length):nth t (l.map f) i=f (nth u l i):=by
 unfold nth;rw [List.getD_eq_getElem?_getD,List.getD_eq_getElem?_getD,List.getElem?_map,List.getElem?_eq_getElem h];rfl
theorem pn {l:List (D aA)} {i:Nat} (h:i < l.length):nth fV (bU l) i=(nth aA l i).2.1:=q9 (u:=aA) (t:=fV) h
theorem pZ {l:List (D aA)} {i:Nat} (h:i < l.length):cC (l.take (i + 1))=cC (l.take i)++[((nth aA l i).2.1.length:Int)]:=by
 unfold cC;rw [iV (t:=aA) h];simp
theorem yW {l:List (D aA)} {i:Nat} (h:i < l.length):bU (l.take (i + 1))=bU (l.take i)++[(nth aA l i).2.1]:=by
 unfold bU;rw [iV (t:=aA) h];simp
noncomputable def MS (l:List (D aA)) (b:List Int) (i:Nat) (ts:List (D aO)):List Pt:=ts.map fun t=>((i:Int),t.1,(fN l b i t).1,())
noncomputable def xy (l:List (D aA)) (b:List Int):List (D aA)->Nat->List Pt
 | [],_=>[]
 | o :: r,i=>MS l b i o.2.2.2.1++xy l b r (i + 1)
theorem Lm {l:List (D aA)} {b:List Int} {i:Nat}:∀{ts:List (D aO)} {out:List Pt},(kO l b i ts out).2.isNil=true->kO l b i ts out=(out++MS l b i ts, .nil)/\∀t∈ts,(fN l b i t).2.isNil=true
 | [],out,_=>⟨by simp [kO,MS],by simp⟩
 | t :: r,out,h=>by
  rw [kO] at h ⊢
  by_cases c:(fN l b i t).2.isNil=true
  ·rw [if_pos c] at h ⊢
   obtain ⟨h1,h2⟩:=Lm h
   refine ⟨by rw [h1];simp [MS],fun u hu => ?_⟩
   rcases List.mem_cons.1 hu with rfl | hu
   ·exact c
   ·exact h2 u hu
  ·rw [if_neg c] at h;exact absurd h c
theorem Ln {l:List (D aA)} {b:List Int}:∀{os:List (D aA)} {i:Nat} {out:List Pt},(kx l b os i out).2.isNil=true->kx l b os i out=(out++xy l b os i, .nil)/\
  ∀k,k < os.length->∀t∈(nth aA os k).2.2.2.1,(fN l b ((i + k:Nat):Int) t).2.isNil=true
 | [],i,out,_=>⟨by simp [kx,xy],fun k hk=>by simp at hk⟩
 | o :: r,i,out,h=>by
  rw [kx] at h ⊢
  unfold jB at h ⊢
  by_cases c:(kO l b i o.2.2.2.1 out).2.isNil=true
  ·rw [if_pos c] at h ⊢
   obtain ⟨h1,h2⟩:=Lm c
   obtain ⟨h3,h4⟩:=Ln h
   refine ⟨by rw [h3,h1];simp [xy],fun k hk => ?_⟩
   rcases k with _ | k
   ·exact h2
   ·have:=h4 k (by simpa using hk)
    rw [show i + 1 + k=i + (k + 1) by omega] at this
    exact this
  ·rw [if_neg c] at h;exact absurd h c
theorem RL {l:List (D aA)} {b:List Int} (h:(dW (l,b)).2.isNil=true):b.length=l.length/\jL b/\(dW (l,b)).1=xy l b l 0/\∀k,k < l.length->∀t∈(nth aA l k).2.2.2.1,(fN l b (k:Int) t).2.isNil=true:=by
 have h':=h
 unfold dW at h ⊢
 split at h
 ·cases h
 ·rename_i hl
  split at h
  ·rename_i hb
   obtain ⟨h1,h2⟩:=Ln h
   refine ⟨Classical.byContradiction hl,hb,?_,fun k hk t ht=>by have:=h2 k hk t ht;rwa [Nat.zero_add] at this⟩
   rw [if_neg hl,if_pos hb,h1];rfl
  ·cases h
theorem Hu {l:List (D aA)} {b:List Int}:∀{os:List (D aA)} {i:Nat} {p:Pt},p∈xy l b os i->∃k t,k < os.length/\t∈(nth aA os k).2.2.2.1/\p=(((i + k:Nat):Int),t.1,(fN l b ((i + k:Nat):Int) t).1,())
 | [],i,p,h=>by simp [xy] at h
 | o :: r,i,p,h=>by
  rcases List.mem_append.1 h with h | h
  ·obtain ⟨t,ht,rfl⟩:=List.mem_map.1 h
   exact ⟨0,t,by simp,ht,rfl⟩
  ·obtain ⟨k,t,hk,ht,rfl⟩:=Hu h
   exact ⟨k + 1,t,by simp;omega,ht,by rw [show i + 1 + k=i + (k + 1) by omega]⟩
theorem qN (x:List Int × List (D aW)):Told (cL x).2:=by
 unfold cL
 split
 ·rfl
 ·split
  ·rfl
  ·split <;> rfl
theorem RM (x:Ws × List Pt):Told (iY x).2:=by
 unfold iY;split <;> rfl
theorem vm {e:bC} (h:Told e):aT (hM e)=e:=by
 cases e with
 | nil=>rfl
 | no m=>
  have h':0 < m:=by have:=h;simpa [Told,cT,hM] using this
  have h2:¬ m=0:=by omega
  show aT m=_
  unfold aT
  rw [if_neg h2]
 | other=>unfold Told at h;simp [cT] at h
theorem vo {e:bC} (h:Told e) (hn:e.isNil=false):0 < hM e:=by
 cases e with
 | nil=>cases hn
 | no m=>
  have h':0 < m:=by have:=h;simpa [Told,cT,hM] using this
  exact h'
 | other=>unfold Told at h;simp [cT] at h
abbrev Rk:=List aD × List (D aA) × List Int × List Pt × Int
noncomputable def bD (rd:Rd) (root:aD):Rk:=
 if ¬ (aR rd root).2.2=0 then ([],[],[],[],(aR rd root).2.2)
 else if (cL (cC (aR rd root).2.1,[])).2.isNil=false then ([],[],[],[],hM (cL (cC (aR rd root).2.1,[])).2)
 else if (dW ((aR rd root).2.1,(cL (cC (aR rd root).2.1,[])).1)).2.isNil=false then ([],[],[],[],hM (dW ((aR rd root).2.1,(cL (cC (aR rd root).2.1,[])).1)).2)
 else ((aR rd root).1,(aR rd root).2.1,(cL (cC (aR rd root).2.1,[])).1,(dW ((aR rd root).2.1,(cL (cC (aR rd root).2.1,[])).1)).1,0)
theorem rL {rd:Rd} {root:aD} (h:¬ (aR rd root).2.2=0):bD rd root=([],[],[],[],(aR rd root).2.2):=by unfold bD;rw [if_pos h]
theorem rM {rd:Rd} {root:aD} (h:(aR rd root).2.2=0) (h1:(cL (cC (aR rd root).2.1,[])).2.isNil=false):bD rd root=([],[],[],[],hM (cL (cC (aR rd root).2.1,[])).2):=by
 unfold bD;rw [if_neg (not_not_intro h),if_pos h1]
theorem vp {rd:Rd} {root:aD} (h:(aR rd root).2.2=0) (h1:(cL (cC (aR rd root).2.1,[])).2.isNil=true) (h2:(dW ((aR rd root).2.1,(cL (cC (aR rd root).2.1,[])).1)).2.isNil=false) :
  bD rd root=([],[],[],[],hM (dW ((aR rd root).2.1,(cL (cC (aR rd root).2.1,[])).1)).2):=by
 unfold bD;rw [if_neg (not_not_intro h),if_neg (by rw [h1];decide),if_pos h2]
theorem s4 {rd:Rd} {root:aD} (h:(aR rd root).2.2=0) (h1:(cL (cC (aR rd root).2.1,[])).2.isNil=true) (h2:(dW ((aR rd root).2.1,(cL (cC (aR rd root).2.1,[])).1)).2.isNil=true) :
  bD rd root=((aR rd root).1,(aR rd root).2.1,(cL (cC (aR rd root).2.1,[])).1,(dW ((aR rd root).2.1,(cL (cC (aR rd root).2.1,[])).1)).1,0):=by
 unfold bD;rw [if_neg (not_not_intro h),if_neg (by rw [h1];decide),if_neg (by rw [h2];decide)]
structure oB (rd:Rd) (root:aD) (ns:List aD) (os:List (D aA)) (bs:List Int) (ps:List Pt):Prop where
 e:aR rd root=(ns,os,0)
 sc:Scope rd root ns os
 eb:cL (cC os,[])=(bs, .nil)
 ea:dW (os,bs)=(ps, .nil)
 bl:bs.length=os.length
 bi:jL bs
 pt:ps=xy os bs os 0
 one:∀k,k < os.length->∀t∈(nth aA os k).2.2.2.1,(fN os bs (k:Int) t).2.isNil=true
 UK:∀i,i < ps.length->oH (bU os) (nth aH ps i)
theorem xz {e:bC} (h:e.isNil=true):e = .nil:=by cases e <;> first | rfl | cases h
theorem Scope.obj {rd:Rd} {root:aD} {ns:List aD} {os:List (D aA)} (ok:gS rd) (h:Scope rd root ns os) {i:Nat} (hi:i < os.length):jY (nth aA os i):=by
 have:=h.Hs i (by rw [<-h.len];exact hi)
 rw [this.2];exact Av ok this.1
theorem jY.RN {o:D aA} (h:jY o):SY o:=by
 refine ⟨by have:=h.t6;omega,fun i hi => ?_,fun i hi => ?_⟩
 ·have:=(h.sym hi).2;unfold iO at this;unfold Small;omega
 ·have:=h.tie hi
  have a:=this.a
  have w:=this.w
  unfold iO at a w
  unfold Small Word
  omega
theorem Scope.RN {rd:Rd} {root:aD} {ns:List aD} {os:List (D aA)} (ok:gS rd) (h:Scope rd root ns os):ij os:=⟨by have:=h.le;have:=h.len;omega,fun _ hi=>(h.obj ok hi).RN⟩
theorem Pj {a n:Int} (h:a<=n - 1):a < n:=by omega
theorem JF {o:D aA} (h:cB o=0):hZ o.2.1.length [] o.2.2.1=0/\jW o.2.1.length none o.2.2.2.1=0:=by
 unfold cB at h
 split at h
 ·cases h
 ·split at h
  ·rename_i h1;exact absurd h h1
  ·split at h
   ·rename_i h2;exact absurd h h2
   ·split at h
    ·rename_i h3;exact absurd h h3
    ·rename_i h3;exact ⟨Classical.byContradiction h3,h⟩
theorem MT {o:D aA} (h:cB o=0) {t:D aO} (ht:t∈o.2.2.2.1):0<=t.1/\t.1 < (o.2.1.length:Int):=by
 obtain ⟨p,hp⟩:=u3 _ _ _ (JF h).2 t ht
 obtain ⟨⟨a,b⟩,_⟩:=D5 hp
 exact ⟨a,Pj b⟩
theorem Scope.fault {rd:Rd} {root:aD} {ns:List aD} {os:List (D aA)} (ok:gS rd) (h:Scope rd root ns os) {i:Nat} (hi:i < os.length):cB (nth aA os i)=0:=by
 have:=h.Hs i (by rw [<-h.len];exact hi)
 rw [this.2];exact qM (pk ok this.1).2
theorem rN {rd:Rd} (ok:gS rd) (root:aD):(∃f,0 < f/\bD rd root=([],[],[],[],f))\/(∃ns os bs ps,bD rd root=(ns,os,bs,ps,0)/\oB rd root ns os bs ps):=by
 rcases s3 ok root with ⟨f,hf,e⟩ | ⟨ns,os,e,sc⟩
 ·exact .inl ⟨f,hf,by rw [rL (by rw [e];simp only;omega),e]⟩
 ·have e0:(aR rd root).2.2=0:=by rw [e]
  have e1:(aR rd root).2.1=os:=by rw [e]
  have e2:(aR rd root).1=ns:=by rw [e]
  cases hb:(cL (cC os,[])).2.isNil with
  | false=>exact .inl ⟨_,vo (qN _) hb,by rw [rM e0 (by rw [e1];exact hb),e1]⟩
  | true=>
   cases ha:(dW (os,(cL (cC os,[])).1)).2.isNil with
   | false=>exact .inl ⟨_,vo (Al _) ha,by rw [vp e0 (by rw [e1];exact hb) (by rw [e1];exact ha),e1]⟩
   | true=>
    obtain ⟨a1,a2,a3,a4⟩:=RL ha
    refine .inr ⟨ns,os,_,_,by rw [s4 e0 (by rw [e1];exact hb) (by rw [e1];exact ha),e1,e2],e,sc,Prod.ext rfl (xz hb),Prod.ext rfl (xz ha),a1,a2,a3,a4,fun i hi => ?_⟩
    obtain ⟨k,t,hk,ht,hp⟩:=Hu (by rw [<-a3];exact ie (t:=aH) hi)
    rw [hp]
    have:=MT (sc.fault ok hk) ht
    refine ⟨by simp only;omega,by simp only;rw [lS];omega,this.1,?_⟩
    simp only [Nat.zero_add]
    rw [show ((k:Int)).toNat=k from rfl,pn hk]
    exact this.2
def eC (ns:List aD) (bs:List Int) (w:Ws) (n:Nat):List (D bR):=(List.range n).map fun i=>(nth .str ns i,nth (.int .i64) bs i,nth fV w i,())
theorem nv (ns:List aD) (bs:List Int) (w:Ws) (n:Nat):(eC ns bs w n).length=n:=by simp [eC]
theorem p5 (ns:List aD) (bs:List Int) (w:Ws) (n:Nat):eC ns bs w (n + 1)=eC ns bs w n++[(nth .str ns n,nth (.int .i64) bs n,nth fV w n,())]:=by simp [eC,List.range_succ]
theorem qO {ns:List aD} {bs:List Int} {w:Ws} {n i:Nat} (h:i < n):nth bR (eC ns bs w n) i=(nth .str ns i,nth (.int .i64) bs i,nth fV w i,()):=by
 apply fO;simp [eC,h]
noncomputable def ko (ns:List aD) (bs:List Int) (os:List (D aA)) (ps:List Pt):List (D bR) × bC:=
 if ¬ ns.length=os.length\/¬ bs.length=os.length then ([], .no 3)
 else if (iY (bU os,ps)).2.isNil=false then ([],(iY (bU os,ps)).2)
 else (eC ns bs (iY (bU os,ps)).1 os.length, .nil)
theorem BW {ns:List aD} {bs:List Int} {os:List (D aA)} {ps:List Pt} (h:¬ ns.length=os.length\/¬ bs.length=os.length):ko ns bs os ps=([], .no 3):=by unfold ko;rw [if_pos h]
theorem Hv {ns:List aD} {bs:List Int} {os:List (D aA)} {ps:List Pt} (h:ns.length=os.length) (h':bs.length=os.length) (hp:(iY (bU os,ps)).2.isNil=false):ko ns bs os ps=([],(iY (bU os,ps)).2):=by
 unfold ko;rw [if_neg (by rintro (e | e);exact e h;exact e h'),if_pos hp]
theorem C2 {ns:List aD} {bs:List Int} {os:List (D aA)} {ps:List Pt} (h:ns.length=os.length) (h':bs.length=os.length) (hp:(iY (bU os,ps)).2.isNil=true):ko ns bs os ps=(eC ns bs (iY (bU os,ps)).1 os.length, .nil):=by
 unfold ko;rw [if_neg (by rintro (e | e);exact e h;exact e h'),if_neg (by rw [hp];decide)]
theorem Hw (ns:List aD) (bs:List Int) (os:List (D aA)) (ps:List Pt):Told (ko ns bs os ps).2:=by
 unfold ko;split
 ·rfl
 ·split
  ·exact RM _
  ·rfl
noncomputable def eG (rd:Rd) (root:aD):List (D bR) × Int:=
 if ¬ (bD rd root).2.2.2.2=0 then ([],(bD rd root).2.2.2.2)
 else ((ko (bD rd root).1 (bD rd root).2.2.1 (bD rd root).2.1 (bD rd root).2.2.2.1).1,hM (ko (bD rd root).1 (bD rd root).2.2.1 (bD rd root).2.1 (bD rd root).2.2.2.1).2)
theorem oB.put {rd:Rd} {root:aD} {ns:List aD} {os:List (D aA)} {bs:List Int} {ps:List Pt} (h:oB rd root ns os bs ps):iY (bU os,ps)=(gy (bU os) ps, .nil):=tJ h.UK
theorem oB.lay {rd:Rd} {root:aD} {ns:List aD} {os:List (D aA)} {bs:List Int} {ps:List Pt} (h:oB rd root ns os bs ps):ko ns bs os ps=(eC ns bs (gy (bU os) ps) os.length, .nil):=by
 rw [C2 h.sc.len.symm h.bl (by rw [h.put];rfl),h.put]
theorem vq {rd:Rd} {root:aD} (h:¬ (bD rd root).2.2.2.2=0):eG rd root=([],(bD rd root).2.2.2.2):=by unfold eG;rw [if_pos h]
theorem Lo {rd:Rd} {root:aD} {ns:List aD} {os:List (D aA)} {bs:List Int} {ps:List Pt} (e:bD rd root=(ns,os,bs,ps,0)) (h:oB rd root ns os bs ps):eG rd root=(eC ns bs (gy (bU os) ps) os.length,0):=by
 unfold eG;rw [e,if_neg (by simp),h.lay];rfl
theorem vr {rd:Rd} (ok:gS rd) (root:aD):(∃f,0 < f/\bD rd root=([],[],[],[],f)/\eG rd root=([],f))\/
  (∃ns os bs ps,bD rd root=(ns,os,bs,ps,0)/\oB rd root ns os bs ps/\eG rd root=(eC ns bs (gy (bU os) ps) os.length,0)):=by
 rcases rN ok root with ⟨f,hf,e⟩ | ⟨ns,os,bs,ps,e,h⟩
 ·exact .inl ⟨f,hf,e,by rw [vq (by rw [e];simp only;omega),e]⟩
 ·exact .inr ⟨ns,os,bs,ps,e,h,Lo e h⟩
theorem oB.row {rd:Rd} {root:aD} {ns:List aD} {os:List (D aA)} {bs:List Int} {ps:List Pt} (h:oB rd root ns os bs ps) {i:Nat} (hi:i < os.length):nth fV (gy (bU os) ps) i=kZ (nth aA os i).2.1 i ps:=by
 have:=Ri (w:=bU os) (l:=ps) (i:=i) (by rw [lS];exact hi) h.UK
 rw [h.put,pn hi] at this
 exact this
end Go.Mrl

namespace Go.Mrl
open Go.Vg
def Vr (p:D bR) (a:Int):Prop:=(p.2.1:Int)<=a/\a < (p.2.1:Int) + (p.2.2.1.length:Int)
instance (p:D bR) (a:Int):Decidable (Vr p a):=inferInstanceAs (Decidable (_/\_))
theorem xA {rd:Rd} (ok:gS rd) {root:aD} (h:(aR rd root).2.2=0):(aR rd root).2.1.length<=6:=by
 have:=(vk ok h).le;have:=(vk ok h).len;omega
theorem BX {rd:Rd} (ok:gS rd) {root:aD} (h:(aR rd root).2.2=0):ij (aR rd root).2.1:=(vk ok h).RN ok
theorem TA {l:List (D aA)} (h:l.length<=1000/\∀i,i < l.length->(nth aA l i).2.1.length<=1000) :
  (bU l).length<=100000/\∀i,i < (bU l).length->(nth fV (bU l) i).length<=100000000:=by
 refine ⟨by rw [lS];omega,fun i hi => ?_⟩
 rw [lS] at hi
 rw [pn hi];have:=h.2 i hi;omega
theorem MU {rd:Rd} (ok:gS rd) {root:aD} {ns:List aD} {os:List (D aA)} (h:Scope rd root ns os):os.length<=1000/\∀i,i < os.length->(nth aA os i).2.1.length<=1000:=by
 refine ⟨by have:=h.le;have:=h.len;omega,fun i hi => ?_⟩
 exact Nat.le_trans (h.obj ok hi).S0 (by decide)
theorem mQ {f:Int} (h:(aT f).isNil=false):¬ f=0:=fun e=>by rw [bJ.2 e] at h;cases h
theorem RO (x:List (D aA) × List Int):aT (hM (dW x).2)=(dW x).2:=vm (Al x)
theorem lf {α:Type} {l:List α} {i:Nat} (h:¬ i < l.length):l.take i=l:=List.take_of_length_le (by omega)
theorem Hx {rd:Rd} {root:aD} (h:¬ (aR rd root).2.2=0):(([]:List (D bR)),([]:List Pt),(aR rd root).2.2,())=((eG rd root).1,(bD rd root).2.2.2.1,(eG rd root).2,()):=by
 have e:=rL h
 rw [vq (by rw [e];exact h),e]
theorem Hy {rd:Rd} {root:aD} (h:(aR rd root).2.2=0) (hn:hM (cL (cC (aR rd root).2.1,[])).2 > 0) :
  (([]:List (D bR)),([]:List Pt),hM (cL (cC (aR rd root).2.1,[])).2,())=((eG rd root).1,(bD rd root).2.2.2.1,(eG rd root).2,()):=by
 have h1:(cL (cC (aR rd root).2.1,[])).2.isNil=false:=by
  cases e:(cL (cC (aR rd root).2.1,[])).2 <;> first | rfl | (rw [e] at hn;exact absurd hn (by decide))
 have e:=rM h h1
 rw [vq (by rw [e];show ¬ hM _=0;omega),e]
theorem MV {rd:Rd} {root:aD} (h:(aR rd root).2.2=0) (h1:(cL (cC (aR rd root).2.1,[])).2.isNil=true)
  (hn:hM (dW ((aR rd root).2.1,(cL (cC (aR rd root).2.1,[])).1)).2 > 0) :
  (([]:List (D bR)),([]:List Pt),hM (dW ((aR rd root).2.1,(cL (cC (aR rd root).2.1,[])).1)).2,())=((eG rd root).1,(bD rd root).2.2.2.1,(eG rd root).2,()):=by
 have h2:(dW ((aR rd root).2.1,(cL (cC (aR rd root).2.1,[])).1)).2.isNil=false:=by
  cases e:(dW ((aR rd root).2.1,(cL (cC (aR rd root).2.1,[])).1)).2 <;> first | rfl | (rw [e] at hn;exact absurd hn (by decide))
 have e:=vp h h1 h2
 rw [vq (by rw [e];show ¬ hM _=0;omega),e]
theorem Hz {e:bC} (ht:Told e) (h:hM e<=0):e.isNil=true:=by
 cases hb:e.isNil with
 | true=>rfl
 | false=>have:=vo ht hb;omega
theorem tQ {rd:Rd} (ok:gS rd) {root:aD} (h:(aR rd root).2.2=0) (h1:hM (cL (cC (aR rd root).2.1,[])).2<=0)
  (h2:hM (dW ((aR rd root).2.1,(cL (cC (aR rd root).2.1,[])).1)).2<=0) :
  oB rd root (aR rd root).1 (aR rd root).2.1 (cL (cC (aR rd root).2.1,[])).1 (dW ((aR rd root).2.1,(cL (cC (aR rd root).2.1,[])).1)).1/\
  bD rd root=((aR rd root).1,(aR rd root).2.1,(cL (cC (aR rd root).2.1,[])).1,(dW ((aR rd root).2.1,(cL (cC (aR rd root).2.1,[])).1)).1,0):=by
 have e:=s4 h (Hz (qN _) h1) (Hz (Al _) h2)
 rcases rN ok root with ⟨f,hf,e'⟩ | ⟨ns,os,bs,ps,e',hr⟩
 ·rw [e'] at e;have:=congrArg (fun x:Rk=>x.2.2.2.2) e;simp only at this;omega
 ·rw [e'] at e
  have a:=congrArg (fun x:Rk=>x.1) e
  have b:=congrArg (fun x:Rk=>x.2.1) e
  have c:=congrArg (fun x:Rk=>x.2.2.1) e
  have d:=congrArg (fun x:Rk=>x.2.2.2.1) e
  simp only at a b c d
  rw [a,b,c,d] at hr e'
  exact ⟨hr,e'⟩
theorem JG {rd:Rd} {root:aD} {ns:List aD} {os:List (D aA)} {bs:List Int} {ps:List Pt} (h:oB rd root ns os bs ps) (e:bD rd root=(ns,os,bs,ps,0)) :
  (eC ns bs (gy (bU os) ps) os.length,ps,(0:Int),())=((eG rd root).1,(bD rd root).2.2.2.1,(eG rd root).2,()):=by
 rw [Lo e h,e]
theorem MW {rd:Rd} {root:aD} {ns:List aD} {os:List (D aA)} {bs:List Int} {ps:List Pt} (h:oB rd root ns os bs ps) {i:Nat} (hi:i < os.length) {r:List Int} (hr:r=kZ (nth aA os i).2.1 i ps) :
  eC ns bs (gy (bU os) ps) i++[(nth .str ns i,nth (.int .i64) bs i,r,())]=eC ns bs (gy (bU os) ps) (i + 1):=by
 rw [p5,h.row hi,hr]
theorem RP {rd:Rd} {root:aD} {ns:List aD} {os:List (D aA)} {bs:List Int} {ps:List Pt} (h:oB rd root ns os bs ps) {i k:Nat} (hk:k < ps.length) (e:(nth aH ps k).1=(i:Int)) (hi:i < os.length) :
  (0:Int)<=(nth aH ps k).2.1/\(nth aH ps k).2.1 < ((kZ (nth aA os i).2.1 i (ps.take k)).length:Int):=by
 have hp:=h.UK k hk
 rw [yM]
 refine ⟨hp.2.2.1,?_⟩
 have:=hp.2.2.2
 rw [e,Int.toNat_natCast,pn hi] at this
 exact this
end Go.Mrl

namespace Go.Mrl
open Go.Vg
def im (rd:Rd) (ns:List aD) (bs:List Int) (n:Nat):List (D aF):=(List.range n).map fun i=>(nth .str ns i,(rd (nth .str ns i)).2.1,nth (.int .i64) bs i,())
theorem s5 (rd:Rd) (ns:List aD) (bs:List Int) (n:Nat):(im rd ns bs n).length=n:=by simp [im]
theorem xB (rd:Rd) (ns:List aD) (bs:List Int) (n:Nat):im rd ns bs (n + 1)=im rd ns bs n++[(nth .str ns n,(rd (nth .str ns n)).2.1,nth (.int .i64) bs n,())]:=by simp [im,List.range_succ]
theorem JH {rd:Rd} {ns:List aD} {bs:List Int} {n i:Nat} (h:i < n):nth aF (im rd ns bs n) i=(nth .str ns i,(rd (nth .str ns i)).2.1,nth (.int .i64) bs i,()):=by
 apply fO;simp [im,h]
noncomputable def jf (rd:Rd) (root:aD):D aI × Int:=
 if ¬ (bD rd root).2.2.2.2=0 then (bO aI,(bD rd root).2.2.2.2)
 else ((root,im rd (bD rd root).1 (bD rd root).2.2.1 (bD rd root).1.length,(bD rd root).2.2.2.1,()),0)
theorem HA {rd:Rd} {root:aD} (h:¬ (bD rd root).2.2.2.2=0):jf rd root=(bO aI,(bD rd root).2.2.2.2):=by unfold jf;rw [if_pos h]
theorem Lp {rd:Rd} {root:aD} (h:(bD rd root).2.2.2.2=0):jf rd root=((root,im rd (bD rd root).1 (bD rd root).2.2.1 (bD rd root).1.length,(bD rd root).2.2.2.1,()),0):=by
 unfold jf;rw [if_neg (not_not_intro h)]
def gF (rd:Rd) (p:D aF):Bool:=decide ((rd p.1).2.2=0) && decide ((rd p.1).2.1=p.2.1)
def fX (rd:Rd) (e:D aI):Bool:=e.2.1.all (gF rd) && decide (0 < e.2.1.length)
theorem vt {rd:Rd} {e:D aI} {i:Nat} (h:i < e.2.1.length) (hf:gF rd (nth aF e.2.1 i)=false):fX rd e=false:=by
 unfold fX
 have:e.2.1.all (gF rd)=false:=List.all_eq_false.2 ⟨_,ie (t:=aF) h,by rw [hf];decide⟩
 rw [this];rfl
theorem Ej {rd:Rd} {e:D aI} (h:∀i,i < e.2.1.length->gF rd (nth aF e.2.1 i)=true):fX rd e=decide (0 < e.2.1.length):=by
 unfold fX
 have:e.2.1.all (gF rd)=true:=List.all_eq_true.2 fun x hx=>by
  obtain ⟨i,hi,rfl⟩:=kf (t:=aF) hx
  exact h i hi
 rw [this];rfl
theorem Pk {rd:Rd} {e:D aI} (h:fX rd e=true):0 < e.2.1.length/\∀i,i < e.2.1.length->(rd (nth aF e.2.1 i).1).2.2=0/\(rd (nth aF e.2.1 i).1).2.1=(nth aF e.2.1 i).2.1:=by
 unfold fX at h
 rw [Bool.and_eq_true,List.all_eq_true,decide_eq_true_eq] at h
 refine ⟨h.2,fun i hi => ?_⟩
 have:=h.1 _ (ie (t:=aF) hi)
 unfold gF at this
 rw [Bool.and_eq_true,decide_eq_true_eq,decide_eq_true_eq] at this
 exact this
noncomputable def nw (rd:Rd):List (D aF)->Int
 | []=>0
 | p :: r=>if (bP (rd p.1).1).2=0 then nw rd r else (bP (rd p.1).1).2
noncomputable def cY (rd:Rd) (l:List (D aF)):List (D aA):=l.map fun p=>(bP (rd p.1).1).1
def eV (l:List (D aF)):List aD:=l.map fun p=>p.1
def eW (l:List (D aF)):List Int:=l.map fun p=>p.2.2.1
theorem Aw {rd:Rd}:∀{l:List (D aF)} {i:Nat},(∀j,j < i->(bP (rd (nth aF l j).1).1).2=0)->i < l.length->¬ (bP (rd (nth aF l i).1).1).2=0->nw rd l=(bP (rd (nth aF l i).1).1).2
 | [],i,_,h,_=>by simp at h
 | p :: r,0,_,_,h=>by unfold nw;rw [if_neg (show ¬ (bP (rd p.1).1).2=0 from h)];rfl
 | p :: r,i + 1,h,h1,h2=>by
  unfold nw
  rw [if_pos (show (bP (rd p.1).1).2=0 from h 0 (by omega))]
  exact Aw (l:=r) (i:=i) (fun j hj=>h (j + 1) (by omega)) (by simpa using h1) h2
theorem qP {rd:Rd}:∀{l:List (D aF)},(∀j,j < l.length->(bP (rd (nth aF l j).1).1).2=0)->nw rd l=0
 | [],_=>rfl
 | p :: r,h=>by
  unfold nw
  rw [if_pos (show (bP (rd p.1).1).2=0 from h 0 (by simp))]
  exact qP (l:=r) fun j hj=>h (j + 1) (by simpa using hj)
theorem xC (rd:Rd):∀l:List (D aF),0<=nw rd l
 | []=>Int.le_refl _
 | p :: r=>by
  unfold nw
  split
  ·exact xC rd r
  ·exact nT _
noncomputable def jk (rd:Rd) (e:D aI):List (D bR) × Int:=
 if fX rd e=false then ([],10)
 else if ¬ nw rd e.2.1=0 then ([],nw rd e.2.1)
 else ((ko (eV e.2.1) (eW e.2.1) (cY rd e.2.1) e.2.2.1).1,hM (ko (eV e.2.1) (eW e.2.1) (cY rd e.2.1) e.2.2.1).2)
theorem Ek {rd:Rd} {e:D aI} (h:fX rd e=false):jk rd e=([],10):=by unfold jk;rw [if_pos h]
theorem Lq {rd:Rd} {e:D aI} (h:fX rd e=true) {f:Int} (hb:nw rd e.2.1=f) (h0:¬ f=0):jk rd e=([],f):=by
 unfold jk;rw [if_neg (by rw [h];decide),if_pos (by rw [hb];exact h0),hb]
theorem HB {rd:Rd} {e:D aI} (h:fX rd e=true) (hb:nw rd e.2.1=0) :
  jk rd e=((ko (eV e.2.1) (eW e.2.1) (cY rd e.2.1) e.2.2.1).1,hM (ko (eV e.2.1) (eW e.2.1) (cY rd e.2.1) e.2.2.1).2):=by
 unfold jk;rw [if_neg (by rw [h];decide),if_neg (not_not_intro hb)]
theorem JI (rd:Rd) (e:D aI):0<=(jk rd e).2:=by
 unfold jk
 split
 ·decide
 ·split
  ·exact xC _ _
  ·have:=Hw (eV e.2.1) (eW e.2.1) (cY rd e.2.1) e.2.2.1
   cases hn:(ko (eV e.2.1) (eW e.2.1) (cY rd e.2.1) e.2.2.1).2.isNil with
   | true=>rw [xz hn];exact Int.le_refl 0
   | false=>have:=vo this hn;simp only;omega
theorem mR {t:Ty} {a b:List (D t)} (hl:a.length=b.length) (h:∀i,i < a.length->nth t a i=nth t b i):a=b:=pX (t:=t) hl h
def dV (p:D aF):Int:=if aG p.1 > 0 then aG p.1 else if p.2.1 < 1\/p.2.1 > 1000000\/p.2.2.1 < 0\/p.2.2.1 > 255\/p.2.2.1 % 16 > 0 then 1 else 0
def mf:List (D aF)->Int
 | []=>0
 | p :: r=>if dV p=0 then mf r else dV p
def dO (n:Nat) (p:Pt):Int:=if p.1 < 0\/p.1>=(n:Int)\/p.2.1 < 0\/p.2.1 > 39\/dJ p.2.2.1=false then 1 else 0
def lT (n:Nat):List Pt->Int
 | []=>0
 | p :: r=>if dO n p=0 then lT n r else dO n p
def qQ (e:D aI):Prop:=e.2.1.length < 1\/e.2.1.length > 6\/e.2.2.1.length > 36
instance (e:D aI):Decidable (qQ e):=by unfold qQ;infer_instance
def bZ (e:D aI):Int:=
 if aG e.1 > 0 then aG e.1 else if qQ e then 2 else if ¬ mf e.2.1=0 then mf e.2.1 else lT e.2.1.length e.2.2.1
theorem FA (p:D aF):0<=dV p:=by
 unfold dV
 split
 ·omega
 ·split <;> decide
theorem FB (n:Nat) (p:Pt):0<=dO n p:=by unfold dO;split <;> decide
theorem tR:∀l:List (D aF),0<=mf l
 | []=>Int.le_refl _
 | p :: r=>by
  unfold mf
  split
  ·exact tR r
  ·exact FA p
theorem sF (n:Nat):∀l:List Pt,0<=lT n l
 | []=>Int.le_refl _
 | p :: r=>by
  unfold lT
  split
  ·exact sF n r
  ·exact FB n p
theorem qx (e:D aI):0<=bZ e:=by
 unfold bZ
 split
 ·omega
 ·split
  ·decide
  ·split
   ·exact tR _
   ·exact sF _ _
theorem BY:∀{l:List (D aF)} {i:Nat},(∀j,j < i->dV (nth aF l j)=0)->i < l.length->¬ dV (nth aF l i)=0->mf l=dV (nth aF l i)
 | [],i,_,h,_=>by simp at h
 | p :: r,0,_,_,h=>by unfold mf;rw [if_neg (show ¬ dV p=0 from h)];rfl
 | p :: r,i + 1,h,h1,h2=>by
  unfold mf
  rw [if_pos (show dV p=0 from h 0 (by omega))]
  exact BY (l:=r) (i:=i) (fun j hj=>h (j + 1) (by omega)) (by simpa using h1) h2
theorem rO:∀{l:List (D aF)},(∀j,j < l.length->dV (nth aF l j)=0)->mf l=0
 | [],_=>rfl
 | p :: r,h=>by
  unfold mf
  rw [if_pos (show dV p=0 from h 0 (by simp))]
  exact rO (l:=r) fun j hj=>h (j + 1) (by simpa using hj)
theorem yX {n:Nat}:∀{l:List Pt} {i:Nat},(∀j,j < i->dO n (nth aH l j)=0)->i < l.length->¬ dO n (nth aH l i)=0->lT n l=dO n (nth aH l i)
 | [],i,_,h,_=>by simp at h
 | p :: r,0,_,_,h=>by unfold lT;rw [if_neg (show ¬ dO n p=0 from h)];rfl
 | p :: r,i + 1,h,h1,h2=>by
  unfold lT
  rw [if_pos (show dO n p=0 from h 0 (by omega))]
  exact yX (l:=r) (i:=i) (fun j hj=>h (j + 1) (by omega)) (by simpa using h1) h2
theorem vR {n:Nat}:∀{l:List Pt},(∀j,j < l.length->dO n (nth aH l j)=0)->lT n l=0
 | [],_=>rfl
 | p :: r,h=>by
  unfold lT
  rw [if_pos (show dO n p=0 from h 0 (by simp))]
  exact vR (l:=r) fun j hj=>h (j + 1) (by simpa using hj)
theorem s6 {e:D aI} (h:aG e.1 > 0):bZ e=aG e.1:=by unfold bZ;rw [if_pos h]
theorem lg {e:D aI} (h:aG e.1<=0) (h1:qQ e):bZ e=2:=by unfold bZ;rw [if_neg (by omega),if_pos h1]
theorem eX {e:D aI} (h:aG e.1<=0) (h1:¬ qQ e) {i:Nat} (hs:∀j,j < i->dV (nth aF e.2.1 j)=0) (hi:i < e.2.1.length) {f:Int} (hf:dV (nth aF e.2.1 i)=f) (h0:f≠0):bZ e=f:=by
 have:=BY hs hi (by rw [hf];exact h0)
 unfold bZ;rw [if_neg (by omega),if_neg h1,if_pos (by rw [this,hf];exact h0),this,hf]
theorem fI {e:D aI} (h:aG e.1<=0) (h1:¬ qQ e) (h2:∀j,j < e.2.1.length->dV (nth aF e.2.1 j)=0) {i:Nat} (hs:∀j,j < i->dO e.2.1.length (nth aH e.2.2.1 j)=0) (hi:i < e.2.2.1.length)
  (hf:dO e.2.1.length (nth aH e.2.2.1 i)=1):bZ e=1:=by
 unfold bZ;rw [if_neg (by omega),if_neg h1,if_neg (not_not_intro (rO h2)),yX hs hi (by rw [hf];decide),hf]
theorem El {e:D aI} (h:aG e.1<=0) (h1:¬ qQ e) (h2:∀j,j < e.2.1.length->dV (nth aF e.2.1 j)=0) (h3:∀j,j < e.2.2.1.length->dO e.2.1.length (nth aH e.2.2.1 j)=0):bZ e=0:=by
 unfold bZ;rw [if_neg (by omega),if_neg h1,if_neg (not_not_intro (rO h2)),vR h3]
end Go.Mrl

namespace Go.Mrl
open Go.Vg
end Go.Mrl

namespace Go.Mrl
open Go.Vg
theorem gT {rd:Rd} (ok:gS rd) (root:aD):0<=(aR rd root).2.2:=by
 rcases s3 ok root with ⟨f,hf,e⟩ | ⟨ns,os,e,_⟩
 ·rw [e];exact Int.le_of_lt hf
 ·rw [e];exact Int.le_refl _
theorem cD.Pf {x:ja} {r:RS} (h:cD x r):r.1.length<=6:=by
 rw [h.perm.length_eq,List.length_map];exact h.len
end Go.Mrl

namespace Go.Mrl
open Go.Vg
theorem JJ {rd:Rd} (ok:gS rd) (s:aD):0<=(eG rd s).2:=by
 rcases vr ok s with ⟨f,hf,_,e⟩ | ⟨ns,os,bs,ps,_,_,e⟩
 ·rw [e];exact Int.le_of_lt hf
 ·rw [e];exact Int.le_refl _
theorem JK {rd:Rd} (ok:gS rd) {s:aD} (h:(eG rd s).2 > 0):bD rd s=([],[],[],[],(eG rd s).2)/\(eG rd s).1 = []:=by
 rcases vr ok s with ⟨f,hf,e1,e⟩ | ⟨ns,os,bs,ps,_,_,e⟩
 ·rw [e];exact ⟨e1,rfl⟩
 ·rw [e] at h;exact absurd h (by simp)
theorem HC {rd:Rd} (ok:gS rd) {s:aD} (h:(eG rd s).2<=0):∃ns os bs ps,bD rd s=(ns,os,bs,ps,0)/\oB rd s ns os bs ps/\eG rd s=(eC ns bs (gy (bU os) ps) os.length,0):=by
 rcases vr ok s with ⟨f,hf,e1,e⟩ | h'
 ·rw [e] at h;exact absurd hf (Int.not_lt.2 h)
 ·exact h'
end Go.Mrl

namespace Go.Mrl
open Go.Vg
end Go.Mrl

namespace Go.Mrl
open Go.Vg
theorem Em {rd:Rd} (ok:gS rd) {s:aD} (h:(bD rd s).2.2.2.2=0):oB rd s (bD rd s).1 (bD rd s).2.1 (bD rd s).2.2.1 (bD rd s).2.2.2.1:=by
 rcases rN ok s with ⟨f,hf,e⟩ | ⟨ns,os,bs,ps,e,hr⟩
 ·rw [e] at h;exact absurd (show f=0 from h) (by omega)
 ·rw [e];exact hr
theorem Pl {rd:Rd} (ok:gS rd) {s:aD} (h:(bD rd s).2.2.2.2=0) {i:Nat} (hi:i < (bD rd s).1.length):(rd (nth .str (bD rd s).1 i)).2.2=0:=
 (pk ok ((Em ok h).sc.Hs i hi).1).1
theorem En {rd:Rd} (ok:gS rd) {s:aD} (h:(bD rd s).2.2.2.2=0):(bD rd s).2.2.1.length=(bD rd s).1.length/\(bD rd s).1.length<=6:=by
 have hr:=Em ok h
 exact ⟨by rw [hr.bl,hr.sc.len],hr.sc.le⟩
theorem yY {l:List (D aF)} {i:Nat} (h:i < l.length):eV (l.take i)++[(nth aF l i).1]=eV (l.take (i + 1)):=by rw [iV (t:=aF) h];simp [eV]
theorem yZ {l:List (D aF)} {i:Nat} (h:i < l.length):eW (l.take i)++[(nth aF l i).2.2.1]=eW (l.take (i + 1)):=by rw [iV (t:=aF) h];simp [eW]
theorem BZ {rd:Rd} {l:List (D aF)} {i:Nat} (h:i < l.length):cY rd (l.take i)++[(bP (rd (nth aF l i).1).1).1]=cY rd (l.take (i + 1)):=by rw [iV (t:=aF) h];simp [cY]
theorem Pm {rd:Rd} {l:List (D aF)} (hl:l.length<=1000) (h:∀j,j < l.length->(bP (rd (nth aF l j).1).1).2=0) :
  (cY rd l).length<=1000/\∀i,i < (cY rd l).length->(nth aA (cY rd l) i).2.1.length<=1000:=by
 have e:(cY rd l).length=l.length:=by simp [cY]
 refine ⟨by omega,fun i hi => ?_⟩
 have hi':i < l.length:=by omega
 rw [show nth aA (cY rd l) i=(bP (rd (nth aF l i).1).1).1 from q9 (t:=aA) (u:=aF) hi']
 exact Nat.le_trans (gC (qM (h i hi'))).S0 (by decide)
theorem Pn {rd:Rd} {p:D aF} (h:(aT (rd p.1).2.2).isNil=false):gF rd p=false:=by
 unfold gF;rw [decide_eq_false (mQ h)];rfl
theorem B0 {rd:Rd} {p:D aF} (h:¬ (rd p.1).2.1=p.2.1):gF rd p=false:=by
 unfold gF;rw [decide_eq_false h,Bool.and_false]
theorem MX {rd:Rd} {p:D aF} (h:(aT (rd p.1).2.2).isNil=true) (h2:(rd p.1).2.1=p.2.1):gF rd p=true:=by
 unfold gF;rw [decide_eq_true (bJ.1 h),decide_eq_true h2];rfl
theorem RQ {rd:Rd} {e:D aI} (h:fX rd e=true) (hb:nw rd e.2.1=0) :
  ((ko (eV e.2.1) (eW e.2.1) (cY rd e.2.1) e.2.2.1).1,(ko (eV e.2.1) (eW e.2.1) (cY rd e.2.1) e.2.2.1).2,())=((jk rd e).1,aT (jk rd e).2,()):=by
 rw [HB h hb];simp only [vm (Hw _ _ _ _)]
end Go.Mrl

namespace Go.Mrl
open Go.Vg
end Go.Mrl

namespace Go.Mrl
open Go.Vg
end Go.Mrl

namespace Go.Mrl
open Go.Vg
theorem B1 {p:D aF} (h:aG p.1 > 0):dV p=aG p.1:=by unfold dV;rw [if_pos h]
theorem jZ {p:D aF} (h:aG p.1<=0) (h2:p.2.1 < (1:Int)\/p.2.1 > (1000000:Int)\/p.2.2.1 < (0:Int)\/p.2.2.1 > (255:Int)\/p.2.2.1 % (16:Int) > 0):dV p=1:=by
 unfold dV;rw [if_neg (by omega),if_pos h2]
theorem HD {p:D aF} (h:aG p.1<=0) (h1:(1:Int)<=p.2.1) (h2:p.2.1<=(1000000:Int)) (h3:(0:Int)<=p.2.2.1) (h4:p.2.2.1<=(255:Int)) (h5:p.2.2.1 % (16:Int)=0):dV p=0:=by
 unfold dV;rw [if_neg (by omega),if_neg]
 rintro (e | e | e | e | e)
 ·exact absurd e (Int.not_lt.2 h1)
 ·exact absurd e (Int.not_lt.2 h2)
 ·exact absurd e (Int.not_lt.2 h3)
 ·exact absurd e (Int.not_lt.2 h4)
 ·exact absurd (show (0:Int) < 0 from h5▸e) (by decide)
theorem vu {b x:Int} (h:0<=b) (e:x=Int.tmod b 16):x=b % 16:=by rw [e,Int.tmod_eq_emod_of_nonneg h]
theorem j0 {n:Nat} {p:Pt} (h:p.1 < (0:Int)\/p.1>=(n:Int)\/p.2.1 < (0:Int)\/p.2.1 > (39:Int)\/p.2.2.1 < (-2147483648:Int)\/p.2.2.1 > (2147483647:Int)):dO n p=1:=by
 unfold dO;rw [if_pos]
 rcases h with h | h | h | h | h | h
 ·exact .inl h
 ·exact .inr (.inl h)
 ·exact .inr (.inr (.inl h))
 ·exact .inr (.inr (.inr (.inl h)))
 ·refine .inr (.inr (.inr (.inr ?_)));unfold dJ;rw [decide_eq_false (Int.not_le.2 h)];rfl
 ·refine .inr (.inr (.inr (.inr ?_)));unfold dJ;rw [decide_eq_false (Int.not_le.2 h),Bool.and_false]
theorem MY {n:Nat} {p:Pt} (h1:(0:Int)<=p.1) (h2:p.1 < (n:Int)) (h3:(0:Int)<=p.2.1) (h4:p.2.1<=(39:Int)) (h5:(-2147483648:Int)<=p.2.2.1) (h6:p.2.2.1<=(2147483647:Int)):dO n p=0:=by
 unfold dO;rw [if_neg]
 rintro (e | e | e | e | e)
 ·exact absurd e (Int.not_lt.2 h1)
 ·exact absurd h2 (Int.not_lt.2 e)
 ·exact absurd e (Int.not_lt.2 h3)
 ·exact absurd e (Int.not_lt.2 h4)
 ·unfold dJ at e;rw [decide_eq_true h5,decide_eq_true h6] at e;cases e
theorem dX {e:D aI} (h1:(1:Int)<=(e.2.1.length:Int)) (h2:(e.2.1.length:Int)<=6) (h3:(e.2.2.1.length:Int)<=36):¬ qQ e:=by
 rintro (k | k | k)
 ·have k:e.2.1.length < 1:=k;omega
 ·have k:e.2.1.length > 6:=k;omega
 ·have k:e.2.2.1.length > 36:=k;omega
end Go.Mrl

namespace Go.Mrl
open Go.Vg
def nU (p:D aF):aD:=[32]++p.1++[32]++Lib.itoa p.2.1++[32]++Lib.itoa p.2.2.1
def nV (p:D aH):aD:=[32]++Lib.itoa p.1++[32]++Lib.itoa p.2.1++[32]++Lib.itoa p.2.2.1
def yl (e:D aI):aD:=e.1++[32]++Lib.itoa (e.2.1.length:Int)++[32]++Lib.itoa (e.2.2.1.length:Int)
def gG (e:D aI) (i:Nat):aD:=yl e++(e.2.1.take i).flatMap nU
def fT (e:D aI) (i:Nat):aD:=gG e e.2.1.length++(e.2.2.1.take i).flatMap nV
def p7 (e:D aI):aD:=fT e e.2.2.1.length
def gH (e:D aI):aD:=p7 e++[10]
def eA (e:D aI):aD × bC:=if bZ e≠0 then ([],aT (bZ e)) else (gH e, .nil)
theorem B2 (e:D aI):gG e 0=yl e:=by unfold gG;simp
theorem B3 (e:D aI):fT e 0=gG e e.2.1.length:=by unfold fT;simp
theorem B4 {e:D aI} {i:Nat} (h:i < e.2.1.length):gG e (i + 1)=gG e i++nU (nth aF e.2.1 i):=by
 unfold gG;rw [iK (t:=aF) h];simp
theorem B5 {e:D aI} {i:Nat} (h:i < e.2.2.1.length):fT e (i + 1)=fT e i++nV (nth aH e.2.2.1 i):=by
 unfold fT;rw [iK (t:=aH) h];simp
structure kq (e:D aI):Prop where
 nm:Nm e.1
 p1:1<=e.2.1.length
 p6:e.2.1.length<=6
 Lr:e.2.2.1.length<=36
 parts:∀i,i < e.2.1.length->Nm (nth aF e.2.1 i).1/\iO 1 1000000 (nth aF e.2.1 i).2.1/\iO 0 255 (nth aF e.2.1 i).2.2.1
 HE:∀i,i < e.2.2.1.length->iO 0 5 (nth aH e.2.2.1 i).1/\iO 0 39 (nth aH e.2.2.1 i).2.1/\iO (-2147483648) 2147483647 (nth aH e.2.2.1 i).2.2.1
theorem B6 {n:Nat} {p:Pt} (h:¬ dO n p=0):dO n p=1:=by
 unfold dO at h ⊢
 split
 ·rfl
 ·rename_i hh;rw [if_neg hh] at h;exact absurd rfl h
theorem l5 {e:D aI} (h:bZ e=0):kq e:=by
 have h0:aG e.1=0:=by
  apply Classical.byContradiction;intro hn
  have:=cK e.1
  rw [s6 (by omega)] at h;exact hn h
 have h1:¬ qQ e:=by
  intro hm;rw [lg (by omega) hm] at h;cases h
 have h2:∀i,(∀j,j < i->j < e.2.1.length->dV (nth aF e.2.1 j)=0)/\(i < e.2.1.length->dV (nth aF e.2.1 i)=0):=by
  intro i
  induction i with
  | zero=>
   refine ⟨fun j hj=>by omega,fun hi => ?_⟩
   apply Classical.byContradiction;intro hn
   rw [eX (i:=0) (by omega) h1 (fun j hj=>by omega) hi rfl hn] at h;exact hn h
  | succ i ih=>
   have hs:∀j,j < i + 1->j < e.2.1.length->dV (nth aF e.2.1 j)=0:=fun j hj hl=>by
    rcases Nat.lt_or_ge j i with hh | hh
    ·exact ih.1 j hh hl
    ·obtain rfl:j=i:=by omega
     exact ih.2 hl
   refine ⟨hs,fun hi => ?_⟩
   apply Classical.byContradiction;intro hn
   rw [eX (i:=i + 1) (by omega) h1 (fun j hj=>hs j hj (by omega)) hi rfl hn] at h;exact hn h
 have h2':∀i,i < e.2.1.length->dV (nth aF e.2.1 i)=0:=fun i=>(h2 i).2
 have h3:∀i,(∀j,j < i->j < e.2.2.1.length->dO e.2.1.length (nth aH e.2.2.1 j)=0)/\(i < e.2.2.1.length->dO e.2.1.length (nth aH e.2.2.1 i)=0):=by
  intro i
  induction i with
  | zero=>
   refine ⟨fun j hj=>by omega,fun hi => ?_⟩
   apply Classical.byContradiction;intro hn
   rw [fI (i:=0) (by omega) h1 h2' (fun j hj=>by omega) hi (B6 hn)] at h;cases h
  | succ i ih=>
   have hs:∀j,j < i + 1->j < e.2.2.1.length->dO e.2.1.length (nth aH e.2.2.1 j)=0:=fun j hj hl=>by
    rcases Nat.lt_or_ge j i with hh | hh
    ·exact ih.1 j hh hl
    ·obtain rfl:j=i:=by omega
     exact ih.2 hl
   refine ⟨hs,fun hi => ?_⟩
   apply Classical.byContradiction;intro hn
   rw [fI (i:=i + 1) (by omega) h1 h2' (fun j hj=>hs j hj (by omega)) hi (B6 hn)] at h;cases h
 have p1:1<=e.2.1.length:=Nat.not_lt.1 fun k=>h1 (.inl k)
 have p6:e.2.1.length<=6:=Nat.not_lt.1 fun k=>h1 (.inr (.inl k))
 refine ⟨BF h0,p1,p6,Nat.not_lt.1 fun k=>h1 (.inr (.inr k)),fun i hi => ?_,fun i hi => ?_⟩
 ·have k:=h2' i hi
  unfold dV at k
  split at k
  ·rename_i hn;omega
  ·rename_i hn
   split at k
   ·cases k
   ·rename_i hb
    have:=cK (nth aF e.2.1 i).1
    exact ⟨BF (by omega),⟨Int.not_lt.1 fun k=>hb (.inl k),Int.not_lt.1 fun k=>hb (.inr (.inl k))⟩,⟨Int.not_lt.1 fun k=>hb (.inr (.inr (.inl k))),Int.not_lt.1 fun k=>hb (.inr (.inr (.inr (.inl k))))⟩⟩
 ·have k:=(h3 i).2 hi
  unfold dO at k
  split at k
  ·cases k
  ·rename_i hb
   have hw:dJ (nth aH e.2.2.1 i).2.2.1=true:=by
    apply Bool.not_eq_false _ |>.mp
    intro k;exact hb (.inr (.inr (.inr (.inr k))))
   unfold dJ at hw
   simp only [Bool.and_eq_true,decide_eq_true_eq] at hw
   have hl:(nth aH e.2.2.1 i).1 < (e.2.1.length:Int):=Int.not_le.1 fun k=>hb (.inr (.inl k))
   exact ⟨⟨Int.not_lt.1 fun k=>hb (.inl k),by omega⟩,⟨Int.not_lt.1 fun k=>hb (.inr (.inr (.inl k))),Int.not_lt.1 fun k=>hb (.inr (.inr (.inr (.inl k))))⟩,hw⟩
theorem MZ {p:D aF} (h1:Nm p.1) (h2:iO 1 1000000 p.2.1) (h3:iO 0 255 p.2.2.1):(nU p).length<=64:=by
 have a:=h1.2.1;have b:=dN h2 (by decide) (by decide);have c:=dN h3 (by decide) (by decide)
 simp [nU];omega
theorem M0 {p:D aH} (h1:iO 0 5 p.1) (h2:iO 0 39 p.2.1) (h3:iO (-2147483648) 2147483647 p.2.2.1):(nV p).length<=64:=by
 have a:=dN h1 (by decide) (by decide);have b:=dN h2 (by decide) (by decide);have c:=dN h3 (by decide) (by decide)
 simp [nV];omega
theorem kq.head {e:D aI} (h:kq e):(yl e).length<=64:=by
 have a:=h.nm.2.1
 have b:=dN (n:=(e.2.1.length:Int)) (a:=0) (b:=6) ⟨by omega,by have:=h.p6;omega⟩ (by decide) (by decide)
 have c:=dN (n:=(e.2.2.1.length:Int)) (a:=0) (b:=36) ⟨by omega,by have:=h.Lr;omega⟩ (by decide) (by decide)
 simp [yl];omega
theorem kq.Hh {e:D aI} (h:kq e) (i:Nat):(gG e i).length<=448:=by
 have a:=h.head
 have b:=oz (f:=nU) (l:=e.2.1.take i) fun x hx=>by
  obtain ⟨j,hj,rfl⟩:=kf (t:=aF) (List.mem_of_mem_take hx)
  obtain ⟨k1,k2,k3⟩:=h.parts j hj
  exact MZ k1 k2 k3
 have c:=h.p6
 have d:(e.2.1.take i).length<=e.2.1.length:=by simp;omega
 unfold gG;rw [List.length_append];omega
theorem kq.CX {e:D aI} (h:kq e) (i:Nat):(fT e i).length<=2752:=by
 have a:=h.Hh e.2.1.length
 have b:=oz (f:=nV) (l:=e.2.2.1.take i) fun x hx=>by
  obtain ⟨j,hj,rfl⟩:=kf (t:=aH) (List.mem_of_mem_take hx)
  obtain ⟨k1,k2,k3⟩:=h.HE j hj
  exact M0 k1 k2 k3
 have c:=h.Lr
 have d:(e.2.2.1.take i).length<=e.2.2.1.length:=by simp;omega
 unfold fT;rw [List.length_append];omega
theorem kq.lens {e:D aI} (h:kq e):e.1.length<=8/\(Lib.itoa (e.2.1.length:Int)).length<=19/\(Lib.itoa (e.2.2.1.length:Int)).length<=19:=
 ⟨h.nm.2.1,dN (a:=0) (b:=6) ⟨by omega,by have:=h.p6;omega⟩ (by decide) (by decide),dN (a:=0) (b:=36) ⟨by omega,by have:=h.Lr;omega⟩ (by decide) (by decide)⟩
theorem kq.S4 {e:D aI} (h:kq e) {i:Nat} (hi:i < e.2.1.length):(nth aF e.2.1 i).1.length<=8/\(Lib.itoa (nth aF e.2.1 i).2.1).length<=19/\(Lib.itoa (nth aF e.2.1 i).2.2.1).length<=19/\(gG e i).length<=448:=by
 obtain ⟨k1,k2,k3⟩:=h.parts i hi
 exact ⟨k1.2.1,dN k2 (by decide) (by decide),dN k3 (by decide) (by decide),h.Hh i⟩
theorem kq.S5 {e:D aI} (h:kq e) {i:Nat} (hi:i < e.2.2.1.length):(Lib.itoa (nth aH e.2.2.1 i).1).length<=19/\(Lib.itoa (nth aH e.2.2.1 i).2.1).length<=19/\(Lib.itoa (nth aH e.2.2.1 i).2.2.1).length<=19/\(fT e i).length<=2752:=by
 obtain ⟨k1,k2,k3⟩:=h.HE i hi
 exact ⟨dN k1 (by decide) (by decide),dN k2 (by decide) (by decide),dN k3 (by decide) (by decide),h.CX i⟩
theorem M1 {e:D aI} {i:Nat} (h:i < e.2.1.length):gG e i++nU (nth aF e.2.1 i)=gG e (i + 1):=(B4 h).symm
theorem M3 {e:D aI} {i:Nat} (h:i < e.2.2.1.length):fT e i++nV (nth aH e.2.2.1 i)=fT e (i + 1):=(B5 h).symm
theorem M4 {e:D aI} (h:bZ e≠0):([],aT (bZ e))=eA e:=by unfold eA;rw [if_pos h]
theorem Po {e:D aI} (h:bZ e=0) {i:Nat} (hi:i=e.2.2.1.length):(fT e i++[10],bC.nil)=eA e:=by unfold eA;rw [if_neg (not_not_intro h),hi];rfl
def vS (L:List aD):aD:=L.flatMap fun x=>32 :: x
theorem C3 (L M:List aD):vS (L++M)=vS L++vS M:=by simp [vS]
theorem HF:∀(a:aD) (L:List aD),np 32 (a :: L)=a++vS L
 | a,[]=>by simp [np,vS]
 | a,b :: r=>by rw [np,HF b r];simp [vS]
def tS (p:D aF):List aD:=[p.1,Lib.itoa p.2.1,Lib.itoa p.2.2.1]
def tT (p:D aH):List aD:=[Lib.itoa p.1,Lib.itoa p.2.1,Lib.itoa p.2.2.1]
def kU (e:D aI):List aD:=e.1 :: ([Lib.itoa (e.2.1.length:Int),Lib.itoa (e.2.2.1.length:Int)]++(e.2.1.flatMap tS++e.2.2.1.flatMap tT))
theorem Ax {α:Type} {f:α->List aD} {g:α->aD} (h:∀x,vS (f x)=g x):∀l:List α,vS (l.flatMap f)=l.flatMap g
 | []=>rfl
 | x :: l=>by rw [List.flatMap_cons,C3,h,Ax h l,List.flatMap_cons]
theorem y5 (e:D aI):p7 e=np 32 (kU e):=by
 unfold kU
 rw [HF,C3,C3,Ax (g:=nU) (by intro x;simp [tS,nU,vS]),Ax (g:=nV) (by intro x;simp [tT,nV,vS])]
 unfold p7 fT gG yl
 simp [vS]
theorem y7 {e:D aI} (h:kq e):∀y∈kU e,(32:UInt8)∉y/\(10:UInt8)∉y:=by
 intro y hy
 unfold kU at hy
 rcases List.mem_cons.1 hy with rfl | hy
 ·exact nu h.nm
 ·rcases List.mem_append.1 hy with hy | hy
  ·simp at hy
   rcases hy with rfl | rfl <;> exact ⟨jK _,mN _⟩
  ·rcases List.mem_append.1 hy with hy | hy
   ·obtain ⟨p,hp,hy⟩:=List.mem_flatMap.1 hy
    obtain ⟨j,hj,rfl⟩:=kf (t:=aF) hp
    simp [tS] at hy
    rcases hy with rfl | rfl | rfl
    ·exact nu (h.parts j hj).1
    ·exact ⟨jK _,mN _⟩
    ·exact ⟨jK _,mN _⟩
   ·obtain ⟨p,hp,hy⟩:=List.mem_flatMap.1 hy
    simp [tT] at hy
    rcases hy with rfl | rfl | rfl <;> exact ⟨jK _,mN _⟩
theorem B7 {c:UInt8} (hc:c≠32):∀{L:List aD},(∀y∈L,c∉y)->c∉np 32 L
 | [],_=>by simp [np]
 | [x],h=>h x (by simp)
 | x :: y :: r,h=>by
  rw [np]
  intro hm
  rcases List.mem_append.1 hm with hm | hm
  ·exact h x (by simp) hm
  ·rcases List.mem_cons.1 hm with e | hm
   ·exact hc e
   ·exact B7 hc (fun z hz=>h z (by simp [hz])) hm
theorem M5 {e:D aI} (h:kq e):(10:UInt8)∉p7 e:=by
 rw [y5];exact B7 (by decide) fun y hy=>(y7 h y hy).2
theorem y8 {e:D aI} (h:kq e):parts 32 (p7 e)=kU e:=by
 rw [y5];exact sY (by unfold kU;simp) fun y hy=>(y7 h y hy).1
theorem s7 {e:D aI} (h:kq e):parts 32 (Lib.trimSuffix (gH e) [10])=kU e:=by
 unfold gH;rw [tO,y8 h]
theorem M6 {e:D aI} (h:kq e):qw (gH e)=([p7 e],true):=by
 rw [CZ (L:=[p7 e]) (x:=[]) (by simp;exact M5 h) (by simp) (by unfold gH la;simp)];rfl
theorem xD {α:Type} {f:α->List aD} (hf:∀x,(f x).length=3):∀l:List α,(l.flatMap f).length=3 * l.length
 | []=>rfl
 | x :: l=>by rw [List.flatMap_cons,List.length_append,hf,xD hf l,List.length_cons];omega
theorem xE {α:Type} [Inhabited α] {f:α->List aD} (hf:∀x,(f x).length=3):∀(l:List α) (i k:Nat),i < l.length->k < 3->nth .str (l.flatMap f) (3 * i + k)=nth .str (f (l.getD i default)) k
 | [],i,k,h,_=>by simp at h
 | x :: l,0,k,_,hk=>by
  rw [List.flatMap_cons,sC (t:=.str) (by rw [hf];omega)];simp
 | x :: l,i + 1,k,h,hk=>by
  rw [List.flatMap_cons,o7,if_neg (by rw [hf];omega),hf,show 3 * (i + 1) + k - 3=3 * i + k by omega,xE hf l i k (by simpa using h) hk]
  simp
structure jP (w:List aD) (e:D aI):Prop where
 len:w.length=3 + 3 * (e.2.1.length + e.2.2.1.length)
 root:nth .str w 0=e.1
 a:nth .str w 1=Lib.itoa (e.2.1.length:Int)
 b:nth .str w 2=Lib.itoa (e.2.2.1.length:Int)
 p0:∀i,i < e.2.1.length->nth .str w (3 + 3 * i)=(nth aF e.2.1 i).1
 p1:∀i,i < e.2.1.length->nth .str w (4 + 3 * i)=Lib.itoa (nth aF e.2.1 i).2.1
 p2:∀i,i < e.2.1.length->nth .str w (5 + 3 * i)=Lib.itoa (nth aF e.2.1 i).2.2.1
 q0:∀i,i < e.2.2.1.length->nth .str w (3 + 3 * (e.2.1.length + i))=Lib.itoa (nth aH e.2.2.1 i).1
 q1:∀i,i < e.2.2.1.length->nth .str w (4 + 3 * (e.2.1.length + i))=Lib.itoa (nth aH e.2.2.1 i).2.1
 q2:∀i,i < e.2.2.1.length->nth .str w (5 + 3 * (e.2.1.length + i))=Lib.itoa (nth aH e.2.2.1 i).2.2.1
theorem y9 {t:Ty} {l:List (D t)} {i:Nat} (d:D t) (h:i < l.length):nth t l i=l.getD i d:=by
 unfold nth;rw [List.getD_eq_getElem?_getD,List.getD_eq_getElem?_getD,List.getElem?_eq_getElem h];rfl
theorem B8 (e:D aI):jP (kU e) e:=by
 have hs:∀x,(tS x).length=3:=fun _=>rfl
 have hp:∀x,(tT x).length=3:=fun _=>rfl
 have ls:=xD hs e.2.1
 have lp:=xD hp e.2.2.1
 have at3:∀k,nth .str (kU e) (3 + k)=nth .str (e.2.1.flatMap tS++e.2.2.1.flatMap tT) k:=fun k=>by
  rw [show 3 + k=k + 1 + 1 + 1 by omega];rfl
 letI:Inhabited (D aF):=⟨bO aF⟩
 letI:Inhabited (D aH):=⟨bO aH⟩
 have hP:∀i k,i < e.2.1.length->k < 3->nth .str (kU e) (3 + (3 * i + k))=nth .str (tS (nth aF e.2.1 i)) k:=fun i k hi hk=>by
  rw [at3,sC (t:=.str) (by omega),xE hs _ i k hi hk,y9 default hi]
 have hQ:∀i k,i < e.2.2.1.length->k < 3->nth .str (kU e) (3 + (3 * (e.2.1.length + i) + k))=nth .str (tT (nth aH e.2.2.1 i)) k:=fun i k hi hk=>by
  rw [at3,o7,if_neg (by omega),ls,show 3 * (e.2.1.length + i) + k - 3 * e.2.1.length=3 * i + k by omega,xE hp _ i k hi hk,y9 default hi]
 refine ⟨?_,rfl,rfl,rfl,fun i hi => ?_,fun i hi => ?_,fun i hi => ?_,fun i hi => ?_,fun i hi => ?_,fun i hi => ?_⟩
 ·unfold kU;simp only [List.length_cons,List.length_append,List.length_nil,ls,lp];omega
 ·exact hP i 0 hi (by omega)
 ·rw [show 4 + 3 * i=3 + (3 * i + 1) by omega];exact hP i 1 hi (by omega)
 ·rw [show 5 + 3 * i=3 + (3 * i + 2) by omega];exact hP i 2 hi (by omega)
 ·exact hQ i 0 hi (by omega)
 ·rw [show 4 + 3 * (e.2.1.length + i)=3 + (3 * (e.2.1.length + i) + 1) by omega];exact hQ i 1 hi (by omega)
 ·rw [show 5 + 3 * (e.2.1.length + i)=3 + (3 * (e.2.1.length + i) + 2) by omega];exact hQ i 2 hi (by omega)
end Go.Mrl

namespace Go.Mrl
open Go.Vg
def partAt (A:aD->Int) (w:List aD) (i:Nat):D aF:=(nth .str w (3 + 3 * i),A (nth .str w (4 + 3 * i)),A (nth .str w (5 + 3 * i)),())
def tU (A:aD->Int) (w:List aD) (i:Nat):D aH:=(A (nth .str w (3 + 3 * i)),A (nth .str w (4 + 3 * i)),A (nth .str w (5 + 3 * i)),())
def cO (A:aD->Int) (w:List aD) (n:Nat):List (D aF):=(List.range n).map (partAt A w)
def cA (A:aD->Int) (w:List aD) (a n:Nat):List (D aH):=(List.range n).map fun i=>tU A w (a + i)
theorem zA (A:aD->Int) (w:List aD) (n:Nat):(cO A w n).length=n:=by simp [cO]
theorem vT (A:aD->Int) (w:List aD) (a n:Nat):(cA A w a n).length=n:=by simp [cA]
theorem JL {A:aD->Int} {w:List aD} {n i:Nat} (h:i < n):nth aF (cO A w n) i=partAt A w i:=by
 unfold nth cO;rw [List.getD_eq_getElem?_getD,List.getElem?_map,List.getElem?_range h];rfl
theorem FC {A:aD->Int} {w:List aD} {a n i:Nat} (h:i < n):nth aH (cA A w a n) i=tU A w (a + i):=by
 unfold nth cA;rw [List.getD_eq_getElem?_getD,List.getElem?_map,List.getElem?_range h];rfl
theorem xF (A:aD->Int) (w:List aD) (n:Nat):cO A w (n + 1)=cO A w n++[partAt A w n]:=by simp [cO,List.range_succ]
theorem tV (A:aD->Int) (w:List aD) (a n:Nat):cA A w a (n + 1)=cA A w a n++[tU A w (a + n)]:=by simp [cA,List.range_succ]
def Pp (A:aD->Int):Prop:=∀n:Int,iO (-2147483648) 2147483647 n->A (Lib.itoa n)=n
theorem eO {a b n:Int} (h:iO a b n) (ha : -2147483648<=a) (hb:b<=2147483647):iO (-2147483648) 2147483647 n:=⟨Int.le_trans ha h.1,Int.le_trans h.2 hb⟩
theorem kq.na {e:D aI} (h:kq e):iO 0 6 (e.2.1.length:Int):=⟨by omega,by have:=h.p6;omega⟩
theorem kq.nb {e:D aI} (h:kq e):iO 0 36 (e.2.2.1.length:Int):=⟨by omega,by have:=h.Lr;omega⟩
theorem jP.eq {A:aD->Int} (hA:Pp A) {w:List aD} {e:D aI} (r:jP w e) (h:kq e):e=(nth .str w 0,cO A w e.2.1.length,cA A w e.2.1.length e.2.2.1.length,()):=by
 obtain ⟨s,p,q,_⟩:=e
 have e1:p=cO A w p.length:=mR (t:=aF) (by rw [zA]) fun i hi=>by
  rw [JL hi]
  obtain ⟨k1,k2,k3⟩:=h.parts i hi
  unfold partAt
  rw [r.p0 i hi,r.p1 i hi,r.p2 i hi,hA _ (eO k2 (by decide) (by decide)),hA _ (eO k3 (by decide) (by decide))]
 have e2:q=cA A w p.length q.length:=mR (t:=aH) (by rw [vT]) fun i hi=>by
  rw [FC hi]
  obtain ⟨k1,k2,k3⟩:=h.HE i hi
  unfold tU
  rw [r.q0 i hi,r.q1 i hi,r.q2 i hi,hA _ (eO k1 (by decide) (by decide)),hA _ (eO k2 (by decide) (by decide)),hA _ k3]
 have e0:nth .str w 0=s:=r.root
 rw [e0]
 exact congrArg (fun z=>(s,z)) (show (p,q,())=(cO A w p.length,cA A w p.length q.length,()) by rw [<-e1,<-e2])
def dI (s:aD):Int:=(dP s).1
theorem iP:Pp dI:=fun n h=>by
 have:=q7 h (by decide) (by decide)
 exact mO this
theorem mS:Pp cJ:=fun n h=>by
 have h1:lu (Lib.itoa n)=some n:=xg (Int.le_trans (by decide) h.1) (Int.le_trans h.2 (by decide))
 unfold cJ nC;rw [h1]
theorem Pq {e e':D aI} (h:bZ e=0) (h':bZ e'=0) (ht:gH e=gH e'):e=e':=by
 have k:=l5 h
 have k':=l5 h'
 have hw:kU e=kU e':=by rw [<-s7 k,<-s7 k',ht]
 have r:=B8 e
 have r':=B8 e'
 rw [hw] at r
 have ha:(e.2.1.length:Int)=(e'.2.1.length:Int):=by
  rw [<-iP _ (eO k.na (by decide) (by decide)),<-iP _ (eO k'.na (by decide) (by decide)),<-r.a,<-r'.a]
 have hb:(e.2.2.1.length:Int)=(e'.2.2.1.length:Int):=by
  rw [<-iP _ (eO k.nb (by decide) (by decide)),<-iP _ (eO k'.nb (by decide) (by decide)),<-r.b,<-r'.b]
 refine (r.eq iP k).trans (Eq.trans ?_ (r'.eq iP k').symm)
 rw [Int.ofNat_inj.1 ha,Int.ofNat_inj.1 hb]
open Classical in
noncomputable def fJ (s:aD):D aI × Int:=if h:∃e:D aI,bZ e=0/\gH e=s then (Classical.choose h,0) else (bO aI,4)
theorem oK {s:aD} {e:D aI} (hf:bZ e=0) (ht:gH e=s):fJ s=(e,0):=by
 have hx:∃e:D aI,bZ e=0/\gH e=s:=⟨e,hf,ht⟩
 have hc:=Classical.choose_spec hx
 unfold fJ
 rw [dif_pos hx,Pq hc.1 hf (hc.2.trans ht.symm)]
theorem lU {s:aD} (hn:∀e:D aI,bZ e=0->gH e=s->False):fJ s=(bO aI,4):=by
 unfold fJ
 rw [dif_neg fun ⟨e,h1,h2⟩=>hn e h1 h2]
theorem M7 (s:aD):((fJ s).2=0/\bZ (fJ s).1=0/\gH (fJ s).1=s)\/fJ s=(bO aI,4):=by
 by_cases h:∃e:D aI,bZ e=0/\gH e=s
 ·obtain ⟨e,h1,h2⟩:=h
  rw [oK h1 h2];exact .inl ⟨rfl,h1,h2⟩
 ·exact .inr (lU fun e h1 h2=>h ⟨e,h1,h2⟩)
noncomputable def jQ (s:aD):D aI × bC:=((fJ s).1,aT (fJ s).2)
theorem po {s:aD} (hn:∀e:D aI,bZ e=0->gH e=s->False):(bO aI,bC.no 4)=jQ s:=by unfold jQ;rw [lU hn];rfl
theorem Pr {s:aD} {e:D aI} (h:(eA e).2.isNil=true) (ht:(eA e).1=s):(e,bC.nil)=jQ s:=by
 have hf:bZ e=0:=by
  apply Classical.byContradiction;intro hf
  unfold eA at h;rw [if_pos hf] at h
  exact hf (bJ.1 h)
 unfold eA at ht;rw [if_neg (not_not_intro hf)] at ht
 unfold jQ;rw [oK hf ht];rfl
def lV (l:List aD):List Int:=l.map dI
def vw (l:List aD):Bool:=l.all fun s=>(dB s).isSome
def bY (l:List aD):List Int × Bool:=if vw l=true then (lV l,true) else ([],false)
theorem RR {l:List aD} {i:Nat} (hi:i < l.length) (h:dB (nth .str l i)=none):vw l=false:=by
 unfold vw
 rw [List.all_eq_false]
 exact ⟨nth .str l i,ie (t:=.str) hi,by rw [h];decide⟩
theorem zB {l:List aD} {i:Nat} (hi:i < l.length) (h:(dB (nth .str l i)).isNone=true):([],false)=bY l:=by
 unfold bY;rw [RR hi (Option.isNone_iff_eq_none.1 h)];rfl
theorem vy {l:List aD} (h:∀j,j < l.length->(dB (nth .str l j)).isNone=false):vw l=true:=by
 unfold vw
 rw [List.all_eq_true]
 intro s hs
 obtain ⟨j,hj,rfl⟩:=kf (t:=.str) hs
 have:=h j hj
 cases hh:dB (nth .str l j) with
 | none=>rw [hh] at this;cases this
 | some n=>rfl
theorem M8 {l:List aD} {i:Nat} (hi:¬ i < l.length) (h:∀j,j < i->j < l.length->(dB (nth .str l j)).isNone=false):(lV (l.take i),true)=bY l:=by
 unfold bY;rw [vy fun j hj=>h j (by omega) hj,if_pos rfl,List.take_of_length_le (by omega)]
theorem B9 {l:List aD} {i:Nat} (h:i < l.length):lV (l.take (i + 1))=lV (l.take i)++[(dP (nth .str l i)).1]:=by
 rw [iK (t:=.str) h];simp [lV,dI]
theorem mT {l:List aD}:(bY l).2=vw l:=by
 unfold bY;split
 ·rename_i h;rw [h]
 ·rename_i h;rw [Bool.not_eq_true _ |>.mp h]
theorem zC {l:List aD} (h:(bY l).2=true) {i:Nat} (hi:i < l.length):nth (.int .i64) (bY l).1 i=dI (nth .str l i)/\(dB (nth .str l i)).isNone=false:=by
 have hk:=h
 rw [mT] at hk
 constructor
 ·unfold bY;rw [if_pos hk]
  unfold nth lV;rw [List.getD_eq_getElem?_getD,List.getD_eq_getElem?_getD,List.getElem?_map,List.getElem?_eq_getElem hi];rfl
 ·unfold vw at hk
  rw [List.all_eq_true] at hk
  have:=hk _ (ie (t:=.str) hi)
  cases hh:dB (nth .str l i) with
  | none=>rw [hh] at this;cases this
  | some n=>rfl
theorem JM {l:List aD} (h:(bY l).2=true):(bY l).1.length=l.length:=by
 rw [mT] at h
 unfold bY;rw [if_pos h];simp [lV]
end Go.Mrl

namespace Go.Mrl
open Go.Vg
structure pM (w:List aD):Prop where
 ka:(dB (nth .str w 1)).isNone=false
 kb:(dB (nth .str w 2)).isNone=false
 a0:(0:Int)<=dI (nth .str w 1)
 a6:dI (nth .str w 1)<=(6:Int)
 b0:(0:Int)<=dI (nth .str w 2)
 cP:dI (nth .str w 2)<=(36:Int)
 len:(w.length:Int)=3 + 3 * (dI (nth .str w 1) + dI (nth .str w 2))
theorem Ca {t:Ty} {l:List (D t)} {i j k:Nat} (h:i + k < j):nth t (List.drop i (List.take j l)) k=nth t l (i + k):=by
 unfold nth;rw [List.getD_eq_getElem?_getD,List.getD_eq_getElem?_getD,List.getElem?_drop,List.getElem?_take,if_pos h]
theorem HG {α:Type} {l:List α} {i j:Nat} (h:j<=l.length):(List.drop i (List.take j l)).length=j - i:=by simp;omega
theorem Ps (s:aD) (c:UInt8) (h:s.length<=100000):(parts c (Lib.trimSuffix s [10])).length<=100001:=by
 have a:=qm c (Lib.trimSuffix s [10]);have b:=yf s [10];omega
theorem oL {l:List aD} {n:Nat} (h:∀y∈l,y.length<=n) (i:Nat):(nth .str l i).length<=n:=by
 by_cases hi:i < l.length
 ·exact h _ (ie (t:=.str) hi)
 ·unfold nth;rw [List.getD_eq_getElem?_getD,List.getElem?_eq_none (by omega)];exact Nat.zero_le _
theorem s9 {s:aD} {c:UInt8} (h:s.length<=100000):∀y∈parts c (Lib.trimSuffix s [10]),y.length<=1000000:=fun y hy=>by
 have a:=lR c _ y hy;have b:=yf s [10];omega
theorem HH {l:List aD} {n:Nat} (h:∀y∈l,y.length<=n) (i j:Nat):∀y∈List.drop i (List.take j l),y.length<=n:=fun y hy=>h y (List.mem_of_mem_take (List.mem_of_mem_drop hy))
theorem TB {s:aD} {c:UInt8} (h:s.length<=100000) (i j:Nat):(List.drop i (List.take j (parts c (Lib.trimSuffix s [10])))).length<=1000000/\∀k,(nth .str (List.drop i (List.take j (parts c (Lib.trimSuffix s [10])))) k).length<=1000000:=
 ⟨by have:=Ps s c h;simp;omega,oL (HH (s9 h) i j)⟩
theorem TC {w:List aD} (h:3<=w.length) (hk:(bY (List.drop 1 (List.take 3 w))).2=true) :
  (bY (List.drop 1 (List.take 3 w))).1 = [dI (nth .str w 1),dI (nth .str w 2)]/\(dB (nth .str w 1)).isNone=false/\(dB (nth .str w 2)).isNone=false:=by
 have hl:(List.drop 1 (List.take 3 w)).length=2:=HG h
 obtain ⟨a1,a2⟩:=zC hk (i:=0) (by omega)
 obtain ⟨b1,b2⟩:=zC hk (i:=1) (by omega)
 have hn:=JM hk
 rw [Ca (t:=.str) (by omega)] at a1 a2 b1 b2
 refine ⟨mR (t:=.int .i64) (by rw [hn,hl];rfl) fun i hi => ?_,a2,b2⟩
 rw [hn,hl] at hi
 rcases (show i=0\/i=1 by omega) with rfl | rfl
 ·rw [a1];rfl
 ·rw [b1];rfl
theorem JN {w:List aD} (h:3<=w.length) (hk:(bY (List.drop 1 (List.take 3 w))).2=false):¬ pM w:=by
 intro hd
 have hl:(List.drop 1 (List.take 3 w)).length=2:=HG h
 rw [mT,vy fun j hj => ?_] at hk
 ·cases hk
 ·rw [hl] at hj
  rcases (show j=0\/j=1 by omega) with rfl | rfl
  ·rw [Ca (t:=.str) (by omega)];exact hd.ka
  ·rw [Ca (t:=.str) (by omega)];exact hd.kb
theorem HI {w:List aD} (h:¬ pM w):(true=false ↔ pM w):=⟨fun e=>Bool.noConfusion e,fun e=>absurd e h⟩
theorem UL {w:List aD} (ka:(dB (nth .str w 1)).isNone=false) (kb:(dB (nth .str w 2)).isNone=false) {a b x:Int} (ha:a=dI (nth .str w 1)) (hb:b=dI (nth .str w 2))
  (a0:0<=a) (a6:a<=6) (b0:0<=b) (cP:b<=36) (hx:x=3 * (a + b)):(((w.length:Int) != 3 + x)=false ↔ pM w):=by
 subst ha;subst hb;subst hx
 constructor
 ·intro h;exact ⟨ka,kb,a0,a6,b0,cP,by simpa using h⟩
 ·intro h;simpa using h.len
theorem pN {s:aD} {e:D aI} (hf:bZ e=0) (ht:gH e=s):jP (parts 32 (Lib.trimSuffix s [10])) e/\kq e:=by
 have k:=l5 hf
 rw [<-ht,s7 k];exact ⟨B8 e,k⟩
theorem jP.na {A:aD->Int} (hA:Pp A) {w:List aD} {e:D aI} (r:jP w e) (k:kq e):A (nth .str w 1)=(e.2.1.length:Int):=by rw [r.a,hA _ (eO k.na (by decide) (by decide))]
theorem jP.nb {A:aD->Int} (hA:Pp A) {w:List aD} {e:D aI} (r:jP w e) (k:kq e):A (nth .str w 2)=(e.2.2.1.length:Int):=by rw [r.b,hA _ (eO k.nb (by decide) (by decide))]
theorem mU {n:Int} (h:iO (-2147483648) 2147483647 n):(dB (Lib.itoa n)).isNone=false:=by rw [q7 h (by decide) (by decide)];rfl
theorem jP.hd {w:List aD} {e:D aI} (r:jP w e) (k:kq e):pM w:=by
 have a:=r.na iP k;have b:=r.nb iP k
 have c:=k.p6;have d:=k.Lr;have l:=r.len
 refine ⟨by rw [r.a];exact mU (eO k.na (by decide) (by decide)),by rw [r.b];exact mU (eO k.nb (by decide) (by decide)),?_,?_,?_,?_,?_⟩ <;> (try rw [a]) <;> (try rw [b]) <;> omega
section
variable {s:aD}
theorem HJ (h:(parts 32 (Lib.trimSuffix s [10])).length < 3):(bO aI,bC.no 4)=jQ s:=po fun e hf ht=>by
 have:=(pN hf ht).1.len;omega
theorem JO (h:¬ pM (parts 32 (Lib.trimSuffix s [10]))):(bO aI,bC.no 4)=jQ s:=po fun e hf ht=>h ((pN hf ht).1.hd (pN hf ht).2)
theorem RT {w:List aD} {e:D aI} (r:jP w e) (k:kq e) {i:Nat} (hi:i < e.2.1.length):(dB (nth .str w (4 + 3 * i))).isNone=false/\(dB (nth .str w (5 + 3 * i))).isNone=false:=by
 obtain ⟨_,k2,k3⟩:=k.parts i hi
 rw [r.p1 i hi,r.p2 i hi]
 exact ⟨mU (eO k2 (by decide) (by decide)),mU (eO k3 (by decide) (by decide))⟩
theorem Pu {w:List aD} {e:D aI} (r:jP w e) (k:kq e) {i:Nat} (hi:e.2.1.length<=i) (hi2:i < e.2.1.length + e.2.2.1.length) :
  (dB (nth .str w (3 + 3 * i))).isNone=false/\(dB (nth .str w (4 + 3 * i))).isNone=false/\(dB (nth .str w (5 + 3 * i))).isNone=false:=by
 obtain ⟨j,rfl⟩:∃j,i=e.2.1.length + j:=⟨i - e.2.1.length,by omega⟩
 obtain ⟨k1,k2,k3⟩:=k.HE j (by omega)
 rw [r.q0 j (by omega),r.q1 j (by omega),r.q2 j (by omega)]
 exact ⟨mU (eO k1 (by decide) (by decide)),mU (eO k2 (by decide) (by decide)),mU k3⟩
structure ll (w x:List aD) (i:Nat):Prop where
 len:x.length=3
 a:nth .str x 0=nth .str w (3 + 3 * i)
 b:nth .str x 1=nth .str w (4 + 3 * i)
 c:nth .str x 2=nth .str w (5 + 3 * i)
theorem Pv {w:List aD} {i:Nat} {p q:Int} (hp:p=3 * (i:Int)) (hq:q=3 * (i:Int)) (h:3 + 3 * (i + 1)<=w.length):ll w (List.drop (Int.toNat (3 + p)) (List.take (Int.toNat (6 + q)) w)) i:=by
 subst hp;subst hq
 rw [show Int.toNat (3 + 3 * (i:Int))=3 + 3 * i by omega,show Int.toNat (6 + 3 * (i:Int))=6 + 3 * i by omega]
 refine ⟨by rw [HG (by omega)];omega,?_,?_,?_⟩ <;> rw [Ca (t:=.str) (by omega)] <;> congr 1 <;> omega
theorem zD {n:Nat} {w x:List aD} {i:Nat} (h:ll w x i) (hw:∀y∈w,y.length<=n) (k:Nat):(nth .str x k).length<=n:=by
 rcases Nat.lt_or_ge k 3 with hk | hk
 ·rcases (show k=0\/k=1\/k=2 by omega) with rfl | rfl | rfl
  ·rw [h.a];exact oL hw _
  ·rw [h.b];exact oL hw _
  ·rw [h.c];exact oL hw _
 ·unfold nth;rw [List.getD_eq_getElem?_getD,List.getElem?_eq_none (by rw [h.len];omega)];exact Nat.zero_le _
theorem Cb {w x:List aD} {i:Nat} (h:ll w x i):List.drop 1 (List.take (List.length x) x) = [nth .str w (4 + 3 * i),nth .str w (5 + 3 * i)]:=by
 match x,h with
 | [p,q,r],h=>rw [<-h.b,<-h.c];rfl
theorem HK {w x:List aD} {i:Nat} (h:ll w x i):x = [nth .str w (3 + 3 * i),nth .str w (4 + 3 * i),nth .str w (5 + 3 * i)]:=by
 match x,h with
 | [p,q,r],h=>rw [<-h.a,<-h.b,<-h.c];rfl
theorem Eo {w x:List aD} {i:Nat} (h:ll w x i) (hk:(bY (List.drop 1 (List.take (List.length x) x))).2=true) :
  (bY (List.drop 1 (List.take (List.length x) x))).1 = [dI (nth .str w (4 + 3 * i)),dI (nth .str w (5 + 3 * i))]:=by
 rw [mT] at hk
 unfold bY;rw [if_pos hk,Cb h];rfl
theorem HM {w x:List aD} {i:Nat} (h:ll w x i) (hk:(bY x).2=true):(bY x).1 = [dI (nth .str w (3 + 3 * i)),dI (nth .str w (4 + 3 * i)),dI (nth .str w (5 + 3 * i))]:=by
 rw [mT] at hk
 unfold bY;rw [if_pos hk];conv=>lhs;rw [HK h]
 rfl
theorem JP {x:List aD} {i:Nat} (h:ll (parts 32 (Lib.trimSuffix s [10])) x i) (hi:(i:Int) < dI (nth .str (parts 32 (Lib.trimSuffix s [10])) 1)) (hk:(bY (List.drop 1 (List.take (List.length x) x))).2=false):(bO aI,bC.no 4)=jQ s:=
 po fun e hf ht=>by
  obtain ⟨r,k⟩:=pN hf ht
  rw [r.na iP k] at hi
  obtain ⟨a,b⟩:=RT r k (i:=i) (by omega)
  rw [mT,Cb h,vy fun j hj => ?_] at hk
  ·cases hk
  ·rcases (show j=0\/j=1 by simp at hj;omega) with rfl | rfl
   ·exact a
   ·exact b
theorem HN {x:List aD} {i:Nat} (h:ll (parts 32 (Lib.trimSuffix s [10])) x i) (hi:dI (nth .str (parts 32 (Lib.trimSuffix s [10])) 1)<=(i:Int)) (hi2:(i:Int) < dI (nth .str (parts 32 (Lib.trimSuffix s [10])) 1) + dI (nth .str (parts 32 (Lib.trimSuffix s [10])) 2)) (hk:(bY x).2=false):(bO aI,bC.no 4)=jQ s:=
 po fun e hf ht=>by
  obtain ⟨r,k⟩:=pN hf ht
  rw [r.na iP k] at hi hi2
  rw [r.nb iP k] at hi2
  obtain ⟨a,b,c⟩:=Pu r k (i:=i) (by omega) (by omega)
  rw [HK h] at hk
  rw [mT,vy fun j hj => ?_] at hk
  ·cases hk
  ·rcases (show j=0\/j=1\/j=2 by simp at hj;omega) with rfl | rfl | rfl
   ·exact a
   ·exact b
   ·exact c
def uV (A:aD->Int) (w:List aD) (a b:Nat):D aI:=(nth .str w 0,cO A w a,cA A w a b,())
theorem zE {a b:Nat} (ha:dI (nth .str (parts 32 (Lib.trimSuffix s [10])) 1)=(a:Int)) (hb:dI (nth .str (parts 32 (Lib.trimSuffix s [10])) 2)=(b:Int))
  (h:(eA (uV dI (parts 32 (Lib.trimSuffix s [10])) a b)).2.isNil=false\/¬ (eA (uV dI (parts 32 (Lib.trimSuffix s [10])) a b)).1=s):(bO aI,bC.no 4)=jQ s:=
 po fun e hf ht=>by
  obtain ⟨r,k⟩:=pN hf ht
  rw [r.na iP k] at ha
  rw [r.nb iP k] at hb
  have he:uV dI (parts 32 (Lib.trimSuffix s [10])) a b=e:=by
   rw [<-Int.ofNat_inj.1 ha,<-Int.ofNat_inj.1 hb];exact (r.eq iP k).symm
  rw [he] at h
  unfold eA at h;rw [if_neg (not_not_intro hf)] at h
  rcases h with h | h
  ·cases h
  ·exact h ht
end
def qA (w:List aD) (y:List Int × Bool):Prop:=(y.2=true->y.1 = [dI (nth .str w 1),dI (nth .str w 2)]/\(dB (nth .str w 1)).isNone=false/\(dB (nth .str w 2)).isNone=false)/\(y.2=false->¬ pM w)
theorem TD {w:List aD} (h:3<=w.length):qA w (bY (List.drop 1 (List.take 3 w))):=⟨fun hk=>TC h hk,fun hk=>JN h hk⟩
theorem qA.ok {w:List aD} {y:List Int × Bool} (h:qA w y) (hd:pM w):y.2=true:=by
 cases hy:y.2 with
 | true=>rfl
 | false=>exact absurd hd (h.2 hy)
theorem qA.get {w:List aD} {y:List Int × Bool} (h:qA w y) (hd:pM w):y.1 = [dI (nth .str w 1),dI (nth .str w 2)]:=(h.1 (h.ok hd)).1
theorem qA.l0 {w:List aD} {y:List Int × Bool} (h:qA w y) (hy:y.2=true):@Eq Int (nth (.int .i64) y.1 0) (dI (nth .str w 1)):=by rw [(h.1 hy).1];rfl
theorem qA.l1 {w:List aD} {y:List Int × Bool} (h:qA w y) (hy:y.2=true):@Eq Int (nth (.int .i64) y.1 1) (dI (nth .str w 2)):=by rw [(h.1 hy).1];rfl
theorem qA.k0 {w:List aD} {y:List Int × Bool} (h:qA w y) (hd:pM w):@Eq Int (nth (.int .i64) y.1 0) (dI (nth .str w 1)):=h.l0 (h.ok hd)
theorem qA.k1 {w:List aD} {y:List Int × Bool} (h:qA w y) (hd:pM w):@Eq Int (nth (.int .i64) y.1 1) (dI (nth .str w 2)):=h.l1 (h.ok hd)
theorem Pw {w x:List aD} {i:Nat} (h:ll w x i) (hw:∀y∈w,y.length<=1000000):x.length<=1000000/\∀k,(nth .str x k).length<=1000000:=⟨by rw [h.len];decide,zD h hw⟩
theorem Px {w x:List aD} {i:Nat} (h:ll w x i) {n:Nat} (hw:∀y∈w,y.length<=n):∀y∈x,y.length<=n:=fun y hy=>by
 obtain ⟨k,hk,rfl⟩:=kf (t:=.str) hy
 exact zD h hw k
theorem M9 {w x:List aD} {i:Nat} (h:ll w x i) (hw:∀y∈w,y.length<=1000000):(List.drop 1 (List.take (List.length x) x)).length<=1000000/\∀k,(nth .str (List.drop 1 (List.take (List.length x) x)) k).length<=1000000:=
 ⟨by have:=h.len;simp;omega,oL (HH (Px h hw) _ _)⟩
theorem Py (A:aD->Int) (w:List aD) (k:Nat):([]:List (D aF))=cO A w (Nat.min 0 k):=by rw [show Nat.min 0 k=0 from Nat.zero_min k];rfl
theorem S6 (A:aD->Int) (w:List aD) (k:Nat):([]:List (D aH))=cA A w k (0 - k):=by rw [Nat.zero_sub];rfl
theorem Pz {i k:Nat} (h:i < k):Nat.min i k=i/\Nat.min (i + 1) k=i + 1:=⟨Nat.min_eq_left (by omega),Nat.min_eq_left h⟩
theorem HO {i k:Nat} (h:k<=i):Nat.min i k=k/\Nat.min (i + 1) k=k:=⟨Nat.min_eq_right h,Nat.min_eq_right (by omega)⟩
theorem Ep {w x:List aD} {i k:Nat} (h:ll w x i) (hk:(bY (List.drop 1 (List.take (List.length x) x))).2=true) (hi:i < k) :
  cO dI w (Nat.min i k)++[(nth .str x 0,nth (.int .i64) (bY (List.drop 1 (List.take (List.length x) x))).1 0,nth (.int .i64) (bY (List.drop 1 (List.take (List.length x) x))).1 1,())]=cO dI w (Nat.min (i + 1) k):=by
 rw [(Pz hi).1,(Pz hi).2,xF,Eo h hk,h.a];rfl
theorem Er {A:aD->Int} {w:List aD} {i k:Nat} (hi:i < k):cA A w k (i - k)=cA A w k (i + 1 - k):=by congr 1;omega
theorem Cc {A:aD->Int} {w:List aD} {i k:Nat} (hi:k<=i):cO A w (Nat.min i k)=cO A w (Nat.min (i + 1) k):=by rw [(HO hi).1,(HO hi).2]
theorem HP {w x:List aD} {i k:Nat} (h:ll w x i) (hk:(bY x).2=true) (hi:k<=i) :
  cA dI w k (i - k)++[(nth (.int .i64) (bY x).1 0,nth (.int .i64) (bY x).1 1,nth (.int .i64) (bY x).1 2,())]=cA dI w k (i + 1 - k):=by
 rw [show i + 1 - k=(i - k) + 1 by omega,tV,HM h hk]
 unfold tU
 rw [show k + (i - k)=i by omega];rfl
theorem HQ {A:aD->Int} {w:List aD} {i a b:Nat} (h:i=a + b):(((nth .str w 0,cO A w (Nat.min i a),cA A w a (i - a),())):D aI)=uV A w a b:=by
 rw [(HO (i:=i) (k:=a) (by omega)).1,show i - a=b by omega];rfl
theorem Cd {A:aD->Int} {w:List aD} {n:Nat} {x:D aF} (h:n<=100):(cO A w n).length + [x].length<=1000000000:=by rw [zA,List.length_singleton];omega
theorem Es {A:aD->Int} {w:List aD} {k n:Nat} {x:D aH} (h:n<=100):(cA A w k n).length + [x].length<=1000000000:=by rw [vT,List.length_singleton];omega
theorem JQ {A:aD->Int} {w:List aD} {i k:Nat} {x:D aF} (h:k<=100):(cO A w (Nat.min i k)).length + [x].length<=1000000000:=Cd (Nat.le_trans (Nat.min_le_right i k) h)
end Go.Mrl

namespace Go.Mrl
open Go.Vg
end Go.Mrl

namespace Go.Mrl
open Go.Vg
theorem Na {n:Nat} {p:Pt} (h:dJ p.2.2.1=false):dO n p=1:=by unfold dO;rw [if_pos];exact .inr (.inr (.inr (.inr h)))
theorem JR {n:Nat} {p:Pt} (h1:(0:Int)<=p.1) (h2:p.1 < (n:Int)) (h3:(0:Int)<=p.2.1) (h4:p.2.1<=(39:Int)) (h5:dJ p.2.2.1=true):dO n p=0:=by
 unfold dO;rw [if_neg]
 rintro (e | e | e | e | e)
 ·exact absurd e (Int.not_lt.2 h1)
 ·exact absurd h2 (Int.not_lt.2 e)
 ·exact absurd e (Int.not_lt.2 h3)
 ·exact absurd e (Int.not_lt.2 h4)
 ·rw [h5] at e;cases e
theorem UM {e:D aI} {i:Nat} (h:i < e.2.1.length):gG e i++[32]++(nth aF e.2.1 i).1++[32]++Lib.itoa (nth aF e.2.1 i).2.1++[32]++Lib.itoa (nth aF e.2.1 i).2.2.1=gG e (i + 1):=by
 rw [B4 h];simp [nU]
theorem UN {e:D aI} {i:Nat} (h:i < e.2.2.1.length):fT e i++[32]++Lib.itoa (nth aH e.2.2.1 i).1++[32]++Lib.itoa (nth aH e.2.2.1 i).2.1++[32]++Lib.itoa (nth aH e.2.2.1 i).2.2.1=fT e (i + 1):=by
 rw [B5 h];simp [nV]
structure Ce (w:List aD):Prop where
 ka:fW (nth .str w 1)=true
 kb:fW (nth .str w 2)=true
 a0:(0:Int)<=cJ (nth .str w 1)
 a6:cJ (nth .str w 1)<=(6:Int)
 b0:(0:Int)<=cJ (nth .str w 2)
 cP:cJ (nth .str w 2)<=(36:Int)
 len:(w.length:Int)=3 + 3 * cJ (nth .str w 1) + 3 * cJ (nth .str w 2)
theorem mV {n:Int} (h:iO (-2147483648) 2147483647 n):fW (Lib.itoa n)=true:=by
 have h1:lu (Lib.itoa n)=some n:=xg (Int.le_trans (by decide) h.1) (Int.le_trans h.2 (by decide))
 unfold fW nC;rw [h1];rfl
theorem ym {w:List aD} (h:¬ Ce w):(true=false ↔ Ce w):=⟨fun e=>Bool.noConfusion e,fun e=>absurd e h⟩
theorem TE {w:List aD} (ka:fW (nth .str w 1)=true) (kb:fW (nth .str w 2)=true) (a0:(0:Int)<=cJ (nth .str w 1)) (a6:cJ (nth .str w 1)<=(6:Int)) (b0:(0:Int)<=cJ (nth .str w 2)) (cP:cJ (nth .str w 2)<=(36:Int))
  {x y:Int} (hx:x=3 * cJ (nth .str w 1)) (hy:y=3 * cJ (nth .str w 2)):(((w.length:Int) != 3 + x + y)=false ↔ Ce w):=by
 subst hx;subst hy
 constructor
 ·intro h;exact ⟨ka,kb,a0,a6,b0,cP,by simpa using h⟩
 ·intro h;simpa using h.len
theorem lE {s:aD} {e:D aI} (hf:bZ e=0) (ht:gH e=s):pj s=true/\(eM s).length=1/\jP (parts 32 (nth .str (eM s) 0)) e/\kq e:=by
 have k:=l5 hf
 have hl:qw s=([p7 e],true):=by rw [<-ht];exact M6 k
 unfold pj eM
 rw [hl]
 exact ⟨rfl,rfl,by show jP (parts 32 (p7 e)) e;rw [y8 k];exact B8 e,k⟩
theorem jP.Vs {w:List aD} {e:D aI} (r:jP w e) (k:kq e):Ce w:=by
 have a:=r.na mS k;have b:=r.nb mS k
 have c:=k.p6;have d:=k.Lr;have l:=r.len
 refine ⟨by rw [r.a];exact mV (eO k.na (by decide) (by decide)),by rw [r.b];exact mV (eO k.nb (by decide) (by decide)),?_,?_,?_,?_,?_⟩ <;> (try rw [a]) <;> (try rw [b]) <;> omega
section
variable {s:aD}
theorem RU (h:pj s=false):(bO aI,(4:Int))=fJ s:=(lU fun e hf ht=>by rw [(lE hf ht).1] at h;cases h).symm
theorem PA (h:¬ ((eM s).length:Int)=1):(bO aI,(4:Int))=fJ s:=(lU fun e hf ht=>h (by rw [(lE hf ht).2.1];rfl)).symm
theorem PB (h:(parts 32 (nth .str (eM s) 0)).length < 3):(bO aI,(4:Int))=fJ s:=(lU fun e hf ht=>by have:=(lE hf ht).2.2.1.len;omega).symm
theorem RV (h:¬ Ce (parts 32 (nth .str (eM s) 0))):(bO aI,(4:Int))=fJ s:=(lU fun e hf ht=>h ((lE hf ht).2.2.1.Vs (lE hf ht).2.2.2)).symm
theorem HR {i:Nat} {x:Int} (h:x=3 * (i:Int)):Int.toNat (3 + x)=3 + 3 * i:=by subst h;omega
theorem Cf {i:Nat} {x:Int} (h:x=3 * (i:Int)):Int.toNat (4 + x)=4 + 3 * i:=by subst h;omega
theorem Cg {i:Nat} {x:Int} (h:x=3 * (i:Int)):Int.toNat (5 + x)=5 + 3 * i:=by subst h;omega
theorem HS {w:List aD} (hw:w=parts 32 (nth .str (eM s) 0)) {i:Nat} (hi:(i:Int) < cJ (nth .str w 1)) {x y:Int} (hx:x=3 * (i:Int)) (hy:y=3 * (i:Int))
  (h:fW (nth .str w (Int.toNat (4 + x)))=false\/fW (nth .str w (Int.toNat (5 + y)))=false):(bO aI,(4:Int))=fJ s:=(lU fun e hf ht=>by
 obtain ⟨_,_,r,k⟩:=lE hf ht
 rw [<-hw] at r
 rw [r.na mS k] at hi
 obtain ⟨_,k2,k3⟩:=k.parts i (by omega)
 rw [Cf hx,Cg hy,r.p1 i (by omega),r.p2 i (by omega),mV (eO k2 (by decide) (by decide)),mV (eO k3 (by decide) (by decide))] at h
 rcases h with h | h <;> cases h).symm
theorem xG {w:List aD} (hw:w=parts 32 (nth .str (eM s) 0)) (h0:(0:Int)<=cJ (nth .str w 1)) {i:Nat} (hi:(i:Int) < cJ (nth .str w 2)) {x y z:Int} (hx:x=3 * (((Int.toNat (cJ (nth .str w 1)):Nat):Int) + (i:Int))) (hy:y=3 * (((Int.toNat (cJ (nth .str w 1)):Nat):Int) + (i:Int))) (hz:z=3 * (((Int.toNat (cJ (nth .str w 1)):Nat):Int) + (i:Int)))
  (h:fW (nth .str w (Int.toNat (3 + x)))=false\/fW (nth .str w (Int.toNat (4 + y)))=false\/fW (nth .str w (Int.toNat (5 + z)))=false):(bO aI,(4:Int))=fJ s:=(lU fun e hf ht=>by
 obtain ⟨_,_,r,k⟩:=lE hf ht
 rw [<-hw] at r
 rw [r.nb mS k] at hi
 have hn:Int.toNat (cJ (nth .str w 1))=e.2.1.length:=by rw [r.na mS k];omega
 rw [hn] at hx hy hz
 obtain ⟨k1,k2,k3⟩:=k.HE i (by omega)
 rw [HR (i:=e.2.1.length + i) (by rw [hx];omega),Cf (i:=e.2.1.length + i) (by rw [hy];omega),Cg (i:=e.2.1.length + i) (by rw [hz];omega),r.q0 i (by omega),r.q1 i (by omega),r.q2 i (by omega),
  mV (eO k1 (by decide) (by decide)),mV (eO k2 (by decide) (by decide)),mV k3] at h
 rcases h with h | h | h <;> cases h).symm
theorem Ch {A:aD->Int} {w:List aD} {i:Nat} {x y z:Int} (hx:x=3 * (i:Int)) (hy:y=3 * (i:Int)) (hz:z=3 * (i:Int)) :
  cO A w i++[(nth .str w (Int.toNat (3 + z)),A (nth .str w (Int.toNat (4 + x))),A (nth .str w (Int.toNat (5 + y))),())]=cO A w (i + 1):=by
 rw [xF,HR hz,Cf hx,Cg hy];rfl
theorem Et {A:aD->Int} {w:List aD} {k i:Nat} {x y z:Int} (hx:x=3 * ((k:Int) + (i:Int))) (hy:y=3 * ((k:Int) + (i:Int))) (hz:z=3 * ((k:Int) + (i:Int))) :
  cA A w k i++[(A (nth .str w (Int.toNat (3 + x))),A (nth .str w (Int.toNat (4 + y))),A (nth .str w (Int.toNat (5 + z))),())]=cA A w k (i + 1):=by
 rw [tV,HR (i:=k + i) (by rw [hx];omega),Cf (i:=k + i) (by rw [hy];omega),Cg (i:=k + i) (by rw [hz];omega)];rfl
theorem RW {w:List aD} (hw:w=parts 32 (nth .str (eM s) 0)) {e:D aI} (hf:bZ e=0) (ht:gH e=s):(((nth .str w 0,cO cJ w (Int.toNat (cJ (nth .str w 1))),cA cJ w (Int.toNat (cJ (nth .str w 1))) (Int.toNat (cJ (nth .str w 2))),())):D aI)=e:=by
 obtain ⟨_,_,r,k⟩:=lE hf ht
 rw [<-hw] at r
 rw [show Int.toNat (cJ (nth .str w 1))=e.2.1.length by rw [r.na mS k];omega,show Int.toNat (cJ (nth .str w 2))=e.2.2.1.length by rw [r.nb mS k];omega]
 exact (r.eq mS k).symm
theorem Eu {w:List aD} (hw:w=parts 32 (nth .str (eM s) 0)) {d:D aI} (hd:d=(nth .str w 0,cO cJ w (Int.toNat (cJ (nth .str w 1))),cA cJ w (Int.toNat (cJ (nth .str w 1))) (Int.toNat (cJ (nth .str w 2))),()))
  (h:¬ bZ d=0\/¬ gH d=s):(bO aI,(4:Int))=fJ s:=(lU fun e hf ht=>by
 have:=RW hw hf ht
 rw [<-hd] at this
 subst this
 rcases h with h | h
 ·exact h hf
 ·exact h ht).symm
end
theorem Nb {s:aD} (h:s.length<=100000):(nth .str (eM s) 0).length<=1000000:=by
 refine oL (n:=1000000) (fun y hy => ?_) 0
 have hy:y∈(parts 10 s).dropLast:=hy
 have:=lR 10 s y ((List.dropLast_sublist _).subset hy)
 omega
end Go.Mrl

namespace Go.Mrl
open Go.Vg
def iq (rd:Rd) (l:List (D bR)):List (D aF):=l.map fun p=>(p.1,(rd p.1).2.1,p.2.1,())
theorem ta (rd:Rd) (l:List (D bR)):(iq rd l).length=l.length:=by simp [iq]
theorem xH {rd:Rd} {l:List (D bR)} {i:Nat} (h:i < l.length):iq rd (l.take i)++[((nth bR l i).1,(rd (nth bR l i).1).2.1,(nth bR l i).2.1,())]=iq rd (l.take (i + 1)):=by
 rw [iK (t:=bR) h];simp [iq]
theorem HT {rd:Rd} {l:List (D bR)} {x:D aF} (h:l.length<=1000):(iq rd l).length + [x].length<=1000000000:=by rw [ta,List.length_singleton];omega
theorem xI {rd:Rd} (ok:gS rd) {s:aD} (h:(eG rd s).2 > 0):jf rd s=(bO aI,(eG rd s).2):=by
 have e:=(JK ok h).1
 have e5:(bD rd s).2.2.2.2=(eG rd s).2:=by rw [e]
 rw [HA (by rw [e5];omega),e5]
theorem HU {rd:Rd} (ok:gS rd) {s:aD} (h:(eG rd s).2<=0):(eG rd s).1.length<=6:=by
 obtain ⟨ns,os,bs,ps,e,hr,el⟩:=HC ok h
 rw [el];show (eC ns bs (gy (bU os) ps) os.length).length<=6;rw [nv]
 have a:=hr.sc.len;have b:=hr.sc.le;omega
theorem Ay {rd:Rd} (ok:gS rd) {s:aD} (h:(eG rd s).2<=0) {i:Nat} (hi:¬ i < (eG rd s).1.length):jf rd s=((s,iq rd ((eG rd s).1.take i),(bD rd s).2.2.2.1,()),0):=by
 rw [List.take_of_length_le (by omega)]
 obtain ⟨ns,os,bs,ps,e,hr,el⟩:=HC ok h
 rw [Lp (by rw [e]),e,el]
 have hst:im rd ns bs ns.length=iq rd (eC ns bs (gy (bU os) ps) os.length):=by
  refine mR (t:=aF) (by rw [s5,ta,nv,hr.sc.len]) fun j hj => ?_
  rw [s5] at hj
  have hl:j < (eC ns bs (gy (bU os) ps) os.length).length:=by rw [nv,hr.sc.len];exact hj
  rw [JH hj,show nth aF (iq rd (eC ns bs (gy (bU os) ps) os.length)) j=_ from q9 (t:=aF) (u:=bR) hl,qO (by rw [hr.sc.len];exact hj)]
 simp only
 rw [hst]
theorem PC {rd:Rd} {p:D aF} (h:(rd p.1).2.2 > 0):gF rd p=false:=by unfold gF;rw [decide_eq_false (by omega)];rfl
theorem Nc {rd:Rd} {p:D aF} (hc:(rd p.1).2.2=0\/(rd p.1).2.2=5) (h:(rd p.1).2.2<=0) (h2:(rd p.1).2.1=p.2.1):gF rd p=true:=by
 unfold gF;rw [decide_eq_true (by omega),decide_eq_true h2];rfl
noncomputable def hE (rd:Rd) (l:List (D aF)) (ps:List Pt) (i:Nat):List (D bR):=eC (eV l) (eW l) (gy (bU (cY rd l)) ps) i
theorem j9 (rd:Rd) (l:List (D aF)) (ps:List Pt) (i:Nat):(hE rd l ps i).length=i:=nv _ _ _ _
theorem xJ (rd:Rd) (l:List (D aF)):(cY rd l).length=l.length:=by simp [cY]
theorem Nd {rd:Rd} {l:List (D aF)} {i:Nat} (h:i < l.length):hE rd l [] i++[((nth aF l i).1,(nth aF l i).2.2.1,(bP (rd (nth aF l i).1).1).1.2.1,())]=hE rd l [] (i + 1):=by
 unfold hE
 rw [p5]
 congr 2
 rw [show nth .str (eV l) i=(nth aF l i).1 from q9 (t:=.str) (u:=aF) h,show nth (.int .i64) (eW l) i=(nth aF l i).2.2.1 from q9 (t:=.int .i64) (u:=aF) h,
  show gy (bU (cY rd l)) []=bU (cY rd l) from rfl,pn (by rw [xJ];exact h),show nth aA (cY rd l) i=(bP (rd (nth aF l i).1).1).1 from q9 (t:=aA) (u:=aF) h]
theorem Nf {rd:Rd} {l:List (D aF)} {i:Nat} {x:D bR} (h:i<=1000):0 < [x].length/\(hE rd l [] i).length + [x].length<=1000000000:=by rw [j9,List.length_singleton];omega
theorem PE {rd:Rd} {l:List (D aF)} {ps:List Pt} {i:Nat} (h:i < l.length):(nth bR (hE rd l ps l.length) i).2.2.1=nth fV (gy (bU (cY rd l)) ps) i:=by
 unfold hE;rw [qO h]
theorem rP {rd:Rd} {l:List (D aF)} {ps:List Pt} {i:Nat} (h:i < l.length):(nth bR (hE rd l ps l.length) i).2.2.1.length=(nth fV (bU (cY rd l)) i).length:=by
 rw [PE h];exact sq _ _ _
theorem qR (rd:Rd) (l:List (D aF)):(bU (cY rd l)).length=l.length:=by rw [lS,xJ]
theorem Ng {rd:Rd} {s:aD} (h:(bP (rd s).1).2<=0):(bP (rd s).1).1.2.1.length<=1000000000:=by
 have:=nT (rd s).1
 exact Nat.le_trans (gC (qM (show (bP (rd s).1).2=0 by omega))).S0 (by decide)
theorem RX {s:aD} (h:(bP s).2<=0):(bP s).2=0:=by have:=nT s;omega
theorem HV {rd:Rd} {e:D aI} (h:fX rd e=true) (hb:∀j,j < e.2.1.length->(bP (rd (nth aF e.2.1 j).1).1).2=0) {i:Nat} (hi:i < e.2.2.1.length) (hp:¬ oH (bU (cY rd e.2.1)) (nth aH e.2.2.1 i)):jk rd e=([],1):=by
 have hq:=GV hi hp
 rw [HB h (qP hb),Hv (by simp [eV,cY]) (by simp [eW,cY]) (by rw [hq];rfl),hq];rfl
theorem PF {rd:Rd} {e:D aI} (h:fX rd e=true) (hb:∀j,j < e.2.1.length->(bP (rd (nth aF e.2.1 j).1).1).2=0) {k:Nat} (hk:¬ k < e.2.2.1.length) (hp:∀j,j < k->oH (bU (cY rd e.2.1)) (nth aH e.2.2.1 j)):jk rd e=(hE rd e.2.1 (e.2.2.1.take k) e.2.1.length,0):=by
 have hq:=tJ (w:=bU (cY rd e.2.1)) (l:=e.2.2.1) fun i hi=>hp i (by omega)
 rw [HB h (qP hb),C2 (by simp [eV,cY]) (by simp [eW,cY]) (by rw [hq];rfl),hq,List.take_of_length_le (by omega)]
 unfold hE
 rw [xJ];rfl
theorem RY {rd:Rd} {l:List (D aF)} {ps:List Pt} {k:Nat} (hk:k < ps.length) (hp:oH (bU (cY rd l)) (nth aH ps k)) :
  (hE rd l (ps.take k) l.length).set (Int.toNat (nth aH ps k).1) ((nth bR (hE rd l (ps.take k) l.length) (Int.toNat (nth aH ps k).1)).1,(nth bR (hE rd l (ps.take k) l.length) (Int.toNat (nth aH ps k).1)).2.1,(nth bR (hE rd l (ps.take k) l.length) (Int.toNat (nth aH ps k).1)).2.2.1.set (Int.toNat (nth aH ps k).2.1) (nth aH ps k).2.2.1,(nth bR (hE rd l (ps.take k) l.length) (Int.toNat (nth aH ps k).1)).2.2.2)=hE rd l (ps.take (k + 1)) l.length:=by
 have hl:Int.toNat (nth aH ps k).1 < l.length:=by
  have a:=hp.1;have b:=hp.2.1
  rw [qR] at b;omega
 refine mR (t:=bR) (by rw [List.length_set,j9,j9]) fun i hi => ?_
 rw [List.length_set,j9] at hi
 have hn:nth bR (hE rd l (ps.take (k + 1)) l.length) i=(nth .str (eV l) i,nth (.int .i64) (eW l) i,nth fV (gy (bU (cY rd l)) (ps.take (k + 1))) i,()):=qO hi
 have hn0:∀j,j < l.length->nth bR (hE rd l (ps.take k) l.length) j=(nth .str (eV l) j,nth (.int .i64) (eW l) j,nth fV (gy (bU (cY rd l)) (ps.take k)) j,()):=fun j hj=>qO hj
 rw [hn,<-DJ hk,Aj,nP,qR]
 by_cases c:Int.toNat (nth aH ps k).1=i
 ·subst c
  rw [qK (t:=bR) (by rw [j9];exact hl),if_pos ⟨hl,rfl⟩,hn0 _ hl]
 ·rw [qJ (t:=bR) c,if_neg (fun h=>c h.2),hn0 _ hi]
end Go.Mrl

namespace Go.Vg
open Go
theorem JS {H:Type} {enc:TypeId × Value->H} {a:Assume} {C:Checked} {os:Os} {f:FuncId} {fn:Func} {s:ChangeSpec} {conds:List PathCond} {apart fresh handsOn again:Bool} {X:World->Array Value->Prop}
  (hX:∀(w w':World) (args:Array Value),w.heap=w'.heap->X w args->X w' args)
  (own:ownKnob C.prog.godebug=none) (started:os.Started) (noInit:C.prog.inits.idxOf? f=none) (hfn:C.prog.funcs[f]?=some fn)
  (witness:∃(w:World) (tape:Tape) (i:Input),w.os=os/\(w.forCall tape i).Shaped C.prog/\i.vars = []/\Input.okWide C.prog (w.forCall tape i) .any w.heap.size f i/\
   ((s.pre enc C.prog fn conds apart (w.forCall tape i).memory i.args/\X (w.forCall tape i).memory i.args)/\sizedMet enc C.prog fn (OpenSpec.ofChange s) apart (w.forCall tape i).memory i.args)/\a.holds C.prog (lone (Frame.enter C.prog f i.args .normal) [] (w.forCall tape i)))
  (contract:∀(W:World) (base:Nat) (args:Array Value) (ds gs:List (DataW H)) (before:List MemPlace),
   (∀(j:Nat) t v,fn.params[j]?=some t->args[j]?=some v->Value.okWide C.prog W .any base t v)->
   DataW.Whole enc C.prog fn.params.toList s.vars apart W args.toList ds gs before->
   X W args->W.ShapedOpen C.prog->
   Calls C.prog f args W fun e W'=>∃v,e = .returned v/\s.post enc C.prog fn apart fresh handsOn again W args v W') :
  ReturnsInHanded a C os f .any (fun w args=>(s.pre enc C.prog fn conds apart w args/\X w args)/\sizedMet enc C.prog fn (OpenSpec.ofChange s) apart w args) (s.post enc C.prog fn apart fresh handsOn again):=by
 refine returnsInHanded_of_calls own started noInit witness ?_
 intro w tape i _ hsh _ hok hpre hholds
 obtain ⟨_,_,_,fn',hfn',_,_,_,_,hval⟩:=hok
 have e:fn'=fn:=Option.some.inj (hfn'.symm.trans hfn)
 subst e
 obtain ⟨⟨⟨ds,gs,before,hw,hc⟩,hx⟩,hz⟩:=hpre
 have hw':=DataW.Whole.of_heap (w':=w.forCall tape i) (by rfl) hw
 refine (contract (w.forCall tape i) w.heap.size i.args ds gs before hval hw' (hX _ _ _ (by rfl) hx) hsh).mono fun e W' ⟨v,he,hp⟩ => ?_
 subst he
 exact ChangeSpec.post_blind hp
theorem HW {P:Program} {w:World} {g:Nat} {t:TypeId} {zero:Array Value} (h:w.ShapedOpen P) (hg:g < P.globals.size)
  (h0:((begin P (fun _ _=>0) default).world.heap[g]?).bind Obj.row?=some (zero,t)) (hz:zero.size=1)
  (hb:P.buildable t=true) (hc:P.cellTypes P.depth t=some [t]) (hu:P.underlying t=some (.int .i64)):∃m,w.cell? ⟨g,0,none⟩=some (.int .i64 m):=by
 obtain ⟨cs,hh,hs,hr⟩:=h.1 g zero t hg h0
 obtain ⟨ts,hts,_,hall⟩:=hr hb
 rw [hc] at hts
 cases hts
 have h1:0 < cs.size:=by omega
 obtain ⟨u,hu',hok⟩:=hall 0 cs[0] (by simp [h1])
 have:u=t:=by simpa using hu'.symm
 subst this
 have hcell:w.cell? ⟨g,0,none⟩=some cs[0]:=by simp [World.cell?,hh,h1]
 rw [hcell]
 unfold Cell.ok at hok
 rw [hu] at hok
 cases hv:cs[0] <;> rw [hv] at hok <;> first | exact hok.elim | (obtain ⟨rfl,_⟩:=hok;exact ⟨_,rfl⟩) | simp at hok
def S7:Option TypeDesc->Bool
 | some (.interface _)=>true
 | _=>false
theorem tW {P:Program} {W:World} {name nm:String} {d:DataW Unit} {g:Nat} {t:TypeId}
  (hg:P.globalNamed name=some g) (hty:(P.globals[g]?).map (·.type)=some t) (hi:S7 (P.underlying t)=true)
  (h:Lib.VarReads P W name (.iface nm d)):∃ev,W.cell? ⟨g,0,none⟩=some ev/\(ev = .nilIface\/∃te pe,ev = .iface te pe):=by
 obtain ⟨g',t',cs,fuel,p,hg',ht',hvar,hd⟩:=h
 obtain rfl:=Option.some.inj (hg.symm.trans hg')
 obtain rfl:=Option.some.inj (hty.symm.trans ht')
 have hc:=World.var?_cell hg hvar 0
 obtain ⟨ms,hu⟩:∃ms,P.underlying t=some (.interface ms):=by
  unfold S7 at hi
  split at hi
  ·rename_i ms hm;exact ⟨ms,hm⟩
  ·cases hi
 cases fuel with
 | zero=>simp [DataW.trod] at hd
 | succ n=>
  cases hl:cs.toList with
  | nil=>rw [hl] at hd;simp [DataW.trod,hu] at hd
  | cons v r=>
   have h0:cs[0]?=some v:=by rw [<-Array.getElem?_toList,hl];rfl
   rw [h0] at hc
   refine ⟨v,hc,?_⟩
   rw [hl] at hd
   cases v <;> first | exact .inl rfl | exact .inr ⟨_,_,rfl⟩ | (simp [DataW.trod,hu] at hd)
theorem HX {P:Program} {W:World} {name:String} {k:IntKind} {zs:List Int} {g:Nat} {t e:TypeId} {n:Nat}
  (hg:P.globalNamed name=some g) (hty:(P.globals[g]?).map (·.type)=some t) (ht:P.underlying t=some (.array n e)) (he:P.underlying e=some (.int k)) (hce:P.cellsOf e=1) (hct:P.cellsOf t=n)
  (h:Lib.VarReads P W name (Lib.tabData k zs)):Lib.TabIs P W name k zs:=by
 obtain ⟨g',t',cs,fuel,p,hg',ht',hvar,hd⟩:=h
 obtain rfl:=Option.some.inj (hg.symm.trans hg')
 obtain rfl:=Option.some.inj (hty.symm.trans ht')
 unfold Lib.TabIs
 rw [hvar,<-Lib.cells_of_tab ht he hce hct hd]
end Go.Vg

namespace Go.Mrl
open Go.Vg
abbrev Az:D aI:=([97],[([97],3,16,())],[(0,2,-7,())],())
abbrev Vd:aD:=[97,32,49,32,49,32,97,32,51,32,49,54,32,48,32,50,32,45,55,10]
theorem pq:bZ Az=0:=by decide
theorem qp:gH Az=Vd:=by
 have i1:Lib.itoa 1 = [49]:=by rw [oy (by decide) (by decide)];rfl
 have i0:Lib.itoa 0 = [48]:=by rw [oy (by decide) (by decide)];rfl
 have i2:Lib.itoa 2 = [50]:=by rw [oy (by decide) (by decide)];rfl
 have i3:Lib.itoa 3 = [51]:=by rw [oy (by decide) (by decide)];rfl
 have i16:Lib.itoa 16 = [49,54]:=by rw [xi (by decide),show (16:Int) / 10=1 from rfl,i1];rfl
 have i7:Lib.itoa (-7) = [45,55]:=by rw [xh (by decide),oy (by decide) (by decide)];rfl
 unfold gH p7 fT gG yl
 simp only [List.length_singleton,List.length_nil,List.take_succ_cons,List.take_zero,List.flatMap_cons,List.flatMap_nil,nU,nV,Int.ofNat_one,show ((1:Nat):Int)=1 from rfl,show ((0:Nat):Int)=0 from rfl,i1,i0,i2,i3,i16,i7]
 rfl
theorem JT (s:aD):0<=(fJ s).2:=by
 rcases M7 s with ⟨h,_⟩ | h
 ·rw [h];decide
 ·rw [h];decide
theorem Nh (s:aD):cT (jQ s).2 (fJ s).2=true:=kX (JT s)
theorem Ci (e:D aI):cT (aT (bZ e)) (bZ e)=true:=kX (qx e)
theorem RZ (e:D aI):(eA e).2=aT (bZ e):=by
 unfold eA;split
 ·rfl
 ·next h=>rw [Classical.not_not.1 h];rfl
theorem PG (e:D aI):cT (eA e).2 (bZ e)=true:=by rw [RZ];exact Ci e
theorem R0 {e:D aI} (h:bZ e > 0):(eA e).1 = []:=by unfold eA;rw [if_pos (by omega)]
theorem Ls {e:D aI} (h:bZ e=0):(eA e).1=gH e:=by unfold eA;rw [if_neg (by omega)]
theorem JU {rd:Rd} (ok:gS rd) (s:aD):0<=(jf rd s).2:=by
 have h0:=JJ ok s
 by_cases h:(eG rd s).2 > 0
 ·rw [xI ok h];exact h0
 ·rw [Ay ok (by omega) (i:=(eG rd s).1.length) (by omega)];exact Int.le_refl 0
theorem HY {rd:Rd} (ok:gS rd) (s:aD):(jf rd s).1.2.1.length<=1000:=by
 by_cases h:(eG rd s).2 > 0
 ·rw [xI ok h];exact Nat.zero_le _
 ·rw [Ay ok (by omega) (i:=(eG rd s).1.length) (by omega)]
  show (iq rd _).length<=1000
  rw [ta,List.length_take];have:=HU ok (s:=s) (by omega);omega
theorem PH {rd:Rd} (ok:gS rd) (s:aD):cT (aT (jf rd s).2) (jf rd s).2=true:=kX (JU ok s)
theorem R1 (rd:Rd) (e:D aI):cT (aT (jk rd e).2) (jk rd e).2=true:=kX (JI rd e)
theorem Ev {l m:List (D bV)} {i:Nat} (h:i < m.length):dQ (l++m.take (i + 1))=pc (dQ (l++m.take i)) (nth bV m i):=by
 rw [iV (t:=bV) h,<-List.append_assoc,DR]
end Go.Mrl

