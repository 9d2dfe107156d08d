/- A part of the proof that the law ImageSaysCard holds of the given program: facts that are used there. -/
import Derived.Test.YtgokjhhcfemnhaaGreatDoorPart2
import Derived.Lib.SplitLaws
import Derived.Lib.ItoaNum
import Derived.Lib.AtoiAll
import Derived.Handed
import Derived.Clock
import Derived.Lib.LaidTab
import Derived.Lib.LaidU8
import Derived.Lay
set_option linter.unusedSimpArgs false
set_option linter.unusedVariables false
namespace Go.Mrl
open Go.Vg
def dA (n:Int):Bool:=decide (-2147483648<=n) && decide (n<=2147483647)
def eV:List (List UInt8)->List (List UInt8)->Int
 | _,[]=>0
 | p,s :: r=>if aK s > 0 then aK s else if p.any (· == s)=true then 3 else eV (p++[s]) r
def fN:List Int->Int
 | []=>0
 | n :: r=>if dA n=true then fN r else 1
def en (n:Nat):List (D aI)->List (D aI)->Int
 | _,[]=>0
 | p,s :: r=>if aK s.1 > 0 then aK s.1 else if s.2.1 < 0\/s.2.1>=(n:Int) then 1 else if p.any (fun x=>x.1 == s.1)=true then 3 else en n (p++[s]) r
def ej (a:Int):Option Int->Bool
 | some b=>decide (a<=b)
 | none=>false
def eu (n:Nat) (prev:Option Int) (t:D aJ):Int:=
 if t.1 < 0\/t.1>=(n:Int)\/dA t.2.2.1=false then 1
 else if t.2.1 < 1\/t.2.1 > 3\/ej t.1 prev=true then 3
 else if t.2.1=1 then (if t.2.2.2.1≠[]\/t.2.2.2.2.1=true then 3 else 0)
 else aK t.2.2.2.1
def fT (n:Nat):Option Int->List (D aJ)->Int
 | _,[]=>0
 | prev,t :: r=>if eu n prev t≠0 then eu n prev t else fT n (some t.1) r
def dn (o:D aA):Prop:=o.1.length > 4\/o.2.1.length < 1\/o.2.1.length > 40\/o.2.2.1.length > 8\/o.2.2.2.1.length > 6
instance (o:D aA):Decidable (dn o):=by unfold dn;infer_instance
def bN (o:D aA):Int:=
 if dn o then 2 else if eV [] o.1≠0 then eV [] o.1 else if fN o.2.1≠0 then fN o.2.1
 else if en o.2.1.length [] o.2.2.1≠0 then en o.2.1.length [] o.2.2.1 else fT o.2.1.length none o.2.2.2.1
theorem gR {t:Ty} {l:List (D t)} {i:Nat} (h:i < l.length):l.take (i + 1)=l.take i++[nth t l i]:=by
 rw [List.take_add_one];congr 1;unfold nth;simp [h]
theorem rE:∀(l p:List (List UInt8)),0<=eV p l
 | [],_=>Int.le_refl _
 | s :: r,p=>by
  unfold eV
  split
  ·omega
  ·split
   ·decide
   ·exact rE r _
theorem rF:∀l:List Int,0<=fN l
 | []=>Int.le_refl _
 | n :: r=>by
  unfold fN
  split
  ·exact rF r
  ·decide
theorem nL (n:Nat):∀(l p:List (D aI)),0<=en n p l
 | [],_=>Int.le_refl _
 | s :: r,p=>by
  unfold en
  split
  ·omega
  ·split
   ·decide
   ·split
    ·decide
    ·exact nL n r _
theorem DU (n:Nat) (p:Option Int) (t:D aJ):0<=eu n p t:=by
 unfold eu
 split
 ·decide
 ·split
  ·decide
  ·split
   ·split <;> decide
   ·exact cj _
theorem sM (n:Nat):∀(l:List (D aJ)) (p:Option Int),0<=fT n p l
 | [],_=>Int.le_refl _
 | t :: r,p=>by
  unfold fT
  split
  ·exact DU n p t
  ·exact sM n r _
theorem rG (o:D aA):0<=bN o:=by
 unfold bN
 split
 ·decide
 ·split
  ·exact rE _ _
  ·split
   ·exact rF _
   ·split
    ·exact nL _ _ _
    ·exact sM _ _ _
structure eW (l:List (List UInt8)) (i:Nat):Prop where
 le:i<=l.length
 eq:eV (l.take i) (l.drop i)=eV [] l
theorem eW.zero (l:List (List UInt8)):eW l 0:=⟨Nat.zero_le _,rfl⟩
theorem eW.fault {l:List (List UInt8)} {i:Nat} (h:eW l i) (hi:i < l.length) (hf:aK (nth .str l i) > 0):eV [] l=aK (nth .str l i):=by
 rw [<-h.eq,dG (t:=.str) hi];unfold eV;rw [if_pos hf]
theorem eW.dup {l:List (List UInt8)} {i:Nat} (h:eW l i) (hi:i < l.length) (hf:aK (nth .str l i)<=0) (ha:(l.take i).any (· == nth .str l i)=true):eV [] l=3:=by
 rw [<-h.eq,dG (t:=.str) hi];unfold eV;rw [if_neg (by omega),if_pos ha]
theorem eW.next {l:List (List UInt8)} {i:Nat} (h:eW l i) (hi:i < l.length) (hf:aK (nth .str l i)<=0) (ha:(l.take i).any (· == nth .str l i)=false):eW l (i + 1):=by
 refine ⟨hi,?_⟩
 rw [<-h.eq,dG (t:=.str) hi,gR (t:=.str) hi]
 conv=>rhs;unfold eV
 rw [if_neg (by omega),if_neg (by rw [ha];decide)]
theorem eW.done {l:List (List UInt8)} {i:Nat} (h:eW l i) (hi:¬ i < l.length):eV [] l=0:=by
 rw [<-h.eq,List.drop_eq_nil_of_le (by omega)];rfl
structure fz (l:List Int) (i:Nat):Prop where
 le:i<=l.length
 eq:fN (l.drop i)=fN l
theorem fz.zero (l:List Int):fz l 0:=⟨Nat.zero_le _,rfl⟩
theorem fz.fault {l:List Int} {i:Nat} (h:fz l i) (hi:i < l.length) (hf:dA (nth (.int .i64) l i)=false):fN l=1:=by
 rw [<-h.eq,dG (t:=.int .i64) hi];unfold fN;rw [if_neg (by rw [hf];decide)]
theorem fz.next {l:List Int} {i:Nat} (h:fz l i) (hi:i < l.length) (hf:dA (nth (.int .i64) l i)=true):fz l (i + 1):=by
 refine ⟨hi,?_⟩
 rw [<-h.eq,dG (t:=.int .i64) hi]
 conv=>rhs;unfold fN
 rw [if_pos hf]
theorem fz.done {l:List Int} {i:Nat} (h:fz l i) (hi:¬ i < l.length):fN l=0:=by
 rw [<-h.eq,List.drop_eq_nil_of_le (by omega)];rfl
structure fu (n:Nat) (l:List (D aI)) (i:Nat):Prop where
 le:i<=l.length
 eq:en n (l.take i) (l.drop i)=en n [] l
theorem fu.zero (n:Nat) (l:List (D aI)):fu n l 0:=⟨Nat.zero_le _,rfl⟩
theorem fu.fault {n:Nat} {l:List (D aI)} {i:Nat} (h:fu n l i) (hi:i < l.length) (hf:aK (nth aI l i).1 > 0):en n [] l=aK (nth aI l i).1:=by
 rw [<-h.eq,dG (t:=aI) hi];unfold en;rw [if_pos hf]
theorem fu.out {n:Nat} {l:List (D aI)} {i:Nat} (h:fu n l i) (hi:i < l.length) (hf:aK (nth aI l i).1<=0) (ho:(nth aI l i).2.1 < 0\/(nth aI l i).2.1>=(n:Int)):en n [] l=1:=by
 rw [<-h.eq,dG (t:=aI) hi];unfold en;rw [if_neg (by omega),if_pos ho]
theorem fu.dup {n:Nat} {l:List (D aI)} {i:Nat} (h:fu n l i) (hi:i < l.length) (hf:aK (nth aI l i).1<=0) (ho:¬ ((nth aI l i).2.1 < 0\/(nth aI l i).2.1>=(n:Int)))
  (ha:(l.take i).any (fun x=>x.1 == (nth aI l i).1)=true):en n [] l=3:=by
 rw [<-h.eq,dG (t:=aI) hi];unfold en;rw [if_neg (by omega),if_neg ho,if_pos ha]
theorem fu.next {n:Nat} {l:List (D aI)} {i:Nat} (h:fu n l i) (hi:i < l.length) (hf:aK (nth aI l i).1<=0) (ho:¬ ((nth aI l i).2.1 < 0\/(nth aI l i).2.1>=(n:Int)))
  (ha:(l.take i).any (fun x=>x.1 == (nth aI l i).1)=false):fu n l (i + 1):=by
 refine ⟨hi,?_⟩
 rw [<-h.eq,dG (t:=aI) hi,gR (t:=aI) hi]
 conv=>rhs;unfold en
 rw [if_neg (by omega),if_neg ho,if_neg (by rw [ha];decide)]
theorem fu.done {n:Nat} {l:List (D aI)} {i:Nat} (h:fu n l i) (hi:¬ i < l.length):en n [] l=0:=by
 rw [<-h.eq,List.drop_eq_nil_of_le (by omega)];rfl
def eX (l:List (D aJ)) (i:Nat):Option Int:=if i=0 then none else some (nth aJ l (i - 1)).1
structure gG (n:Nat) (l:List (D aJ)) (i:Nat):Prop where
 le:i<=l.length
 eq:fT n (eX l i) (l.drop i)=fT n none l
theorem gG.zero (n:Nat) (l:List (D aJ)):gG n l 0:=⟨Nat.zero_le _,rfl⟩
theorem gG.fault {n:Nat} {l:List (D aJ)} {i:Nat} (h:gG n l i) (hi:i < l.length) {f:Int} (hf:eu n (eX l i) (nth aJ l i)=f) (h0:f≠0):fT n none l=f:=by
 rw [<-h.eq,dG (t:=aJ) hi];unfold fT;rw [if_pos (by rw [hf];exact h0),hf]
theorem gG.next {n:Nat} {l:List (D aJ)} {i:Nat} (h:gG n l i) (hi:i < l.length) (hf:eu n (eX l i) (nth aJ l i)=0):gG n l (i + 1):=by
 refine ⟨hi,?_⟩
 rw [<-h.eq,dG (t:=aJ) hi]
 conv=>rhs;unfold fT
 rw [if_neg (by rw [hf];decide)]
 rfl
theorem gG.done {n:Nat} {l:List (D aJ)} {i:Nat} (h:gG n l i) (hi:¬ i < l.length):fT n none l=0:=by
 rw [<-h.eq,List.drop_eq_nil_of_le (by omega)];rfl
theorem qN {t:Ty} {l:List (D t)} {i j:Nat} {f:D t->Bool} (hj:j < i) (hi:i<=l.length) (h:f (nth t l j)=true):(l.take i).any f=true:=by
 rw [List.any_eq_true]
 refine ⟨nth t l j,?_,h⟩
 have:(l.take i)[j]?=some (nth t l j):=by
  rw [List.getElem?_take,if_pos hj]
  unfold nth
  rw [List.getD_eq_getElem?_getD,List.getElem?_eq_getElem (by omega)];rfl
 exact List.mem_of_getElem? this
theorem oJ {t:Ty} {l:List (D t)} {i:Nat} {f:D t->Bool} (h:∀j,j < i->f (nth t l j)=false):(l.take i).any f=false:=by
 rw [List.any_eq_false]
 intro x hx
 obtain ⟨j,hj,rfl⟩:=List.getElem_of_mem hx
 rw [List.length_take] at hj
 have:=h j (by omega)
 rw [List.getElem_take]
 have e:nth t l j=l[j]'(by omega):=by unfold nth;simp [show j < l.length by omega]
 rw [e] at this
 rw [this];decide
theorem contains_of {l:List (List UInt8)} {s:List UInt8} {y:Int} (h:(y = -1/\∀j,j < l.length->nth .str l j≠s)\/(0<=y/\y.toNat < l.length/\nth .str l y.toNat=s)):decide (y>=0)=l.any (· == s):=by
 rcases h with ⟨rfl,h⟩ | ⟨h1,h2,h3⟩
 ·have:=oJ (t:=.str) (l:=l) (i:=l.length) (f:=(· == s)) fun j hj=>by simpa using h j hj
  rw [List.take_length] at this
  rw [this];rfl
 ·have:=qN (t:=.str) (l:=l) (i:=l.length) (f:=(· == s)) h2 (Nat.le_refl _) (by simpa using h3)
  rw [List.take_length] at this
  rw [this];simpa using h1
theorem uz {o:D aA} (h:dn o):bN o=2:=by unfold bN;rw [if_pos h]
theorem lA {o:D aA} (h:¬ dn o) {f:Int} (hf:eV [] o.1=f) (h0:f≠0):bN o=f:=by unfold bN;rw [if_neg h,if_pos (by rw [hf];exact h0),hf]
theorem sN {o:D aA} (h:¬ dn o) (h1:eV [] o.1=0) {f:Int} (hf:fN o.2.1=f) (h0:f≠0):bN o=f:=by
 unfold bN;rw [if_neg h,if_neg (by rw [h1];decide),if_pos (by rw [hf];exact h0),hf]
theorem kf {o:D aA} (h:¬ dn o) (h1:eV [] o.1=0) (h2:fN o.2.1=0) {f:Int} (hf:en o.2.1.length [] o.2.2.1=f) (h0:f≠0):bN o=f:=by
 unfold bN;rw [if_neg h,if_neg (by rw [h1];decide),if_neg (by rw [h2];decide),if_pos (by rw [hf];exact h0),hf]
theorem eL {o:D aA} (h:¬ dn o) (h1:eV [] o.1=0) (h2:fN o.2.1=0) (h3:en o.2.1.length [] o.2.2.1=0) {f:Int} (hf:fT o.2.1.length none o.2.2.2.1=f):bN o=f:=by
 unfold bN;rw [if_neg h,if_neg (by rw [h1];decide),if_neg (by rw [h2];decide),if_neg (by rw [h3];decide),hf]
end Go.Mrl

namespace Go.Mrl
open Go.Vg
abbrev RF:=aD × aD × Int × Unit
abbrev RS:=List RF × Int × Unit
def eo (y:RF):aD:=y.1
def dB (s:aD) (y:RF):Bool:=!(y.1 == s)
def bH:List RF->aD->aD × Int × Int
 | [],_=>([],0,5)
 | y :: r,s=>if y.1=s then (y.2.1,y.2.2.1,0) else bH r s
def iv (s:aD) (e:RF):List RF->List RF
 | []=>[e]
 | y :: r=>if (Op.bytesLess s y.1 || s == y.1)=true then e :: (y :: r).filter (dB s) else y :: iv s e r
def ek (x:RS) (s t:aD):RS × Int:=
 if ¬ aK s=0 then (x,aK s) else if 1200 < t.length then (x,2)
 else if (0 < (bH x.1 s).2.2/\x.1.length=6)\/x.2.1=1000000 then (x,8)
 else ((iv s (s,t,x.2.1 + 1,()) x.1,x.2.1 + 1,()),0)
def ed (x:RS) (s:aD):RS × Int:=if (x.1.filter (dB s)).length=x.1.length then (x,5) else ((x.1.filter (dB s),x.2),0)
theorem GB (L:List RF) (s:aD):(bH L s).2.2=0\/(bH L s).2.2=5:=by
 induction L with
 | nil=>exact .inr rfl
 | cons y r ih=>unfold bH;split;exact .inl rfl;exact ih
def oK (y:FE):RF:=(y.1,y.2.1.1,y.2.1.2.1,())
def pW (L:List RF):Prop:=L.Pairwise fun a b=>jN a.1 b.1
structure bO (x:ft) (r:RS):Prop where
 now:r.2.1=x.1.1
 lo:0<=x.1.1
 hi:x.1.1<=1000000
 len:x.2.1.1.length<=6
 born:(x.2.1.1.map cr).Nodup
 pr:∀y∈x.2.1.1,cr y < x.2.1.2.1
 xP:pW r.1
 perm:r.1.Perm (x.2.1.1.map oK)
theorem bO.new:bO tH ([],0,()):=⟨rfl,Int.le_refl _,by decide,by decide,by decide,fun y hy=>by simp [tH] at hy, .nil, .refl _⟩
theorem sO {L:List RF} (h:pW L):(L.map eo).Nodup:=by
 unfold List.Nodup
 rw [List.pairwise_map]
 exact h.imp fun hlt e=>by unfold eo at e;rw [e] at hlt;exact lu _ hlt
theorem bO.names {x:ft} {r:RS} (h:bO x r):(x.2.1.1.map gn).Nodup:=by
 have h1:=(h.perm.map eo).nodup_iff.1 (sO h.xP)
 rw [List.map_map] at h1
 exact h1
theorem yH:∀{L:List RF} {s:aD},(L.map eo).Nodup->∀y∈L,y.1=s->bH L s=(y.2.1,y.2.2.1,0)
 | [],_,_,_,h,_=>by simp at h
 | z :: r,s,hn,y,hy,e=>by
  simp only [List.map_cons,List.nodup_cons] at hn
  unfold bH
  rcases List.mem_cons.1 hy with rfl | hy
  ·rw [if_pos e]
  ·have:¬ z.1=s:=fun e2=>hn.1 (by rw [show eo z=eo y from e2.trans e.symm];exact List.mem_map_of_mem hy)
   rw [if_neg this]
   exact yH hn.2 y hy e
theorem qO:∀{L:List RF} {s:aD},(∀y∈L,¬ y.1=s)->bH L s=([],0,5)
 | [],_,_=>rfl
 | z :: r,s,h=>by
  unfold bH
  rw [if_neg (h z (by simp))]
  exact qO fun y hy=>h y (by simp [hy])
theorem lV:∀{es:List FE} {s:aD},dy cO es s=true ↔ ∃y∈es,y.1=s
 | [],_=>by simp [dy]
 | z :: r,s=>by
  unfold dy
  by_cases c:z.1=s
  ·simp [c]
  ·rw [if_neg c,lV];simp [c]
theorem B5:∀{es:List FE} {s:aD},(es.map gn).Nodup->∀y∈es,y.1=s->lh cO es s=y.2.1
 | [],_,_,_,h,_=>by simp at h
 | z :: r,s,hn,y,hy,e=>by
  simp only [List.map_cons,List.nodup_cons] at hn
  unfold lh
  rcases List.mem_cons.1 hy with rfl | hy
  ·rw [if_pos e]
  ·have:¬ z.1=s:=fun e2=>hn.1 (by rw [show gn z=gn y from e2.trans e.symm];exact List.mem_map_of_mem hy)
   rw [if_neg this]
   exact B5 hn.2 y hy e
theorem bO.read {x:ft} {r:RS} (h:bO x r) (s:aD):bS x s=bH r.1 s:=by
 by_cases c:dy cO x.2.1.1 s=true
 ·obtain ⟨y,hy,e⟩:=lV.1 c
  rw [qM c,B5 h.names y hy e]
  exact (yH (sO h.xP) (oK y) (h.perm.mem_iff.2 (List.mem_map_of_mem hy)) e).symm
 ·rw [oI (by simpa using c)]
  refine (qO fun y hy e=>c ?_).symm
  obtain ⟨z,hz,rfl⟩:=List.mem_map.1 (h.perm.mem_iff.1 hy)
  exact lV.2 ⟨z,hz,e⟩
theorem bO.list {x:ft} {r:RS} (h:bO x r):lz x=r.1.map eo:=by
 unfold lz
 refine B1 ?_ ?_
 ·have:=h.perm.map eo
  rw [List.map_map] at this
  exact this
 ·rw [List.pairwise_map]
  exact h.xP.imp mz
theorem ef {s:aD} {y:RF}:dB s y=true ↔ ¬ y.1=s:=by simp [dB]
theorem B6 {s:aD} {e:RF}:∀{L:List RF} {y:RF},y∈iv s e L->y=e\/y∈L
 | [],y,h=>by simp [iv] at h;exact .inl h
 | z :: r,y,h=>by
  unfold iv at h
  split at h
  ·rcases List.mem_cons.1 h with h | h
   ·exact .inl h
   ·exact .inr (List.mem_filter.1 h).1
  ·rcases List.mem_cons.1 h with rfl | h
   ·exact .inr (by simp)
   ·rcases B6 h with h | h
    ·exact .inl h
    ·exact .inr (by simp [h])
theorem not_le {s a:aD} (h:¬ (Op.bytesLess s a || s == a)=true):jN a s:=by
 simp at h
 exact sz (a:=a) (b:=s) (by unfold ke jN;rw [h.1];simp) (fun e=>h.2 e.symm)
theorem uA {s:aD} {e:RF} (he:e.1=s):∀{L:List RF},pW L->pW (iv s e L)
 | [],_=>by simp [iv,pW]
 | z :: r,h=>by
  have h':=List.pairwise_cons.1 h
  unfold iv
  split
  ·rename_i c
   refine List.pairwise_cons.2 ⟨fun y hy => ?_,h.filter _⟩
   have hy':=List.mem_filter.1 hy
   have hn:=ef.1 hy'.2
   have hz:ke s z.1:=by
    simp at c
    rcases c with c | rfl
    ·exact mz c
    ·exact BZ _
   have hzy:ke z.1 y.1:=by
    rcases List.mem_cons.1 hy'.1 with e2 | hy2
    ·rw [e2];exact BZ _
    ·exact mz (h'.1 y hy2)
   rw [he]
   exact sz (sy hz hzy) (fun e2=>hn e2.symm)
  ·rename_i c
   have hlt:=not_le c
   refine List.pairwise_cons.2 ⟨fun y hy => ?_,uA he h'.2⟩
   rcases B6 hy with rfl | hy
   ·rw [he];exact hlt
   ·exact h'.1 y hy
theorem filter_all {s:aD}:∀{L:List RF},(∀y∈L,¬ y.1=s)->L.filter (dB s)=L:=fun h=>List.filter_eq_self.2 fun y hy=>ef.2 (h y hy)
theorem yI {s:aD} {e:RF}:∀{L:List RF},pW L->(iv s e L).Perm (e :: L.filter (dB s))
 | [],_ => .refl _
 | z :: r,h=>by
  have h':=List.pairwise_cons.1 h
  unfold iv
  split
  ·exact .refl _
  ·rename_i c
   have hlt:=not_le c
   have hz:dB s z=true:=ef.2 fun e=>by rw [e] at hlt;exact lu _ hlt
   rw [List.filter_cons,if_pos hz]
   exact ((yI h'.2).cons z).trans (List.Perm.swap e z _)
theorem sP {s:aD} {v:aD × Int × Unit} {c:Int}:∀{es:List FE},(es.map gn).Nodup->((eN cO es s v c).map oK).Perm ((s,v.1,v.2.1,()) :: (es.map oK).filter (dB s))
 | [],_ => .refl _
 | z :: r,hn=>by
  simp only [List.map_cons,List.nodup_cons] at hn
  unfold eN
  by_cases e:z.1=s
  ·rw [if_pos e]
   have h1:dB s (oK z)=false:=by
    cases h:dB s (oK z) with
    | false=>rfl
    | true=>exact absurd e (ef.1 h)
   rw [List.map_cons,List.map_cons,List.filter_cons,if_neg (by rw [h1];simp),filter_all]
   ·exact .refl _
   ·intro y hy e2
    obtain ⟨z2,hz2,rfl⟩:=List.mem_map.1 hy
    exact hn.1 (by rw [show gn z=gn z2 from e.trans (show s=z2.1 from e2.symm)];exact List.mem_map_of_mem hz2)
  ·rw [if_neg e]
   have h1:dB s (oK z)=true:=ef.2 e
   rw [List.map_cons,List.map_cons,List.filter_cons,if_pos h1]
   exact ((sP hn.2).cons (oK z)).trans (List.Perm.swap _ _ _)
theorem oL {s:aD} {v:aD × Int × Unit} {c:Int}:∀{es:List FE},(eN cO es s v c).map cr=if dy cO es s=true then es.map cr else es.map cr++[c]
 | []=>rfl
 | z :: r=>by
  unfold eN dy
  by_cases e:z.1=s
  ·rw [if_pos e,if_pos e];rfl
  ·rw [if_neg e,if_neg e,List.map_cons,oL]
   split <;> rfl
theorem B7 {s:aD}:∀{es:List FE},(es.map gn).Nodup->(fG cO es s).map oK=(es.map oK).filter (dB s)
 | [],_=>rfl
 | z :: r,hn=>by
  simp only [List.map_cons,List.nodup_cons] at hn
  unfold fG
  by_cases e:z.1=s
  ·have h1:¬ dB s (oK z)=true:=fun h=>ef.1 h e
   rw [if_pos e,List.map_cons,List.filter_cons,if_neg h1,filter_all]
   intro y hy e2
   obtain ⟨z2,hz2,rfl⟩:=List.mem_map.1 hy
   exact hn.1 (by rw [show gn z=gn z2 from e.trans (show s=z2.1 from e2.symm)];exact List.mem_map_of_mem hz2)
  ·have h1:dB s (oK z)=true:=ef.2 e
   rw [if_neg e,List.map_cons,List.map_cons,List.filter_cons,if_pos h1,B7 hn.2]
theorem qP {s:aD}:∀{es:List FE},(fG cO es s).Sublist es
 | [] => .refl _
 | z :: r=>by
  unfold fG
  split
  ·exact List.sublist_cons_self _ _
  ·exact qP.cons_cons _
theorem bO.has {x:ft} {r:RS} (h:bO x r) (s:aD):0 < (bH r.1 s).2.2 ↔ dy cO x.2.1.1 s=false:=by
 rw [<-h.read s]
 cases c:dy cO x.2.1.1 s with
 | true=>rw [qM c];simp
 | false=>rw [oI c];simp
theorem bO.write {x:ft} {r:RS} (h:bO x r) (s t:aD):bO (dO x s t).1 (ek r s t).1/\(dO x s t).2=(ek r s t).2:=by
 have hlen:r.1.length=x.2.1.1.length:=by rw [h.perm.length_eq,List.length_map]
 have hc:((dy cO x.2.1.1 s=false/\x.2.1.1.length=6)\/x.1.1=1000000) ↔ ((0 < (bH r.1 s).2.2/\r.1.length=6)\/r.2.1=1000000):=by rw [h.has,hlen,h.now]
 by_cases h1:aK s=0
 ·by_cases h2:1200 < t.length
  ·rw [sG h1 h2]
   unfold ek;rw [if_neg (by simp [h1]),if_pos h2]
   exact ⟨h,rfl⟩
  ·by_cases h3:(dy cO x.2.1.1 s=false/\x.2.1.1.length=6)\/x.1.1=1000000
   ·rw [sH h1 h2 h3]
    unfold ek;rw [if_neg (by simp [h1]),if_neg h2,if_pos (hc.1 h3)]
    exact ⟨h,rfl⟩
   ·rw [wR h1 h2 h3]
    unfold ek;rw [if_neg (by simp [h1]),if_neg h2,if_neg (fun h'=>h3 (hc.2 h'))]
    refine ⟨⟨by rw [h.now],by have:=h.lo;simp only;omega,by have:=h.hi;simp only;omega,?_,?_,?_,uA (s:=s) (e:=(s,t,r.2.1 + 1,())) rfl h.xP,?_⟩,rfl⟩
    ·have hp:=(sP (s:=s) (v:=(t,x.1.1 + 1,())) (c:=x.2.1.2.1) h.names).length_eq
     have hb:=congrArg List.length (oL (s:=s) (v:=(t,x.1.1 + 1,())) (c:=x.2.1.2.1) (es:=x.2.1.1))
     simp only [List.length_map] at hb
     show (eN cO x.2.1.1 s (t,x.1.1 + 1,()) x.2.1.2.1).length<=6
     rw [hb]
     have:=h.len
     cases c:dy cO x.2.1.1 s with
     | true=>simpa using this
     | false=>
      have:¬ x.2.1.1.length=6:=fun e=>h3 (.inl ⟨c,e⟩)
      simp;omega
    ·show ((eN cO x.2.1.1 s (t,x.1.1 + 1,()) x.2.1.2.1).map cr).Nodup
     rw [oL]
     split
     ·exact h.born
     ·rw [List.nodup_append]
      refine ⟨h.born,by simp,fun a ha b hb e => ?_⟩
      simp at hb
      obtain ⟨y,hy,rfl⟩:=List.mem_map.1 ha
      have:=h.pr y hy
      omega
    ·intro y hy
     have hy':cr y∈(eN cO x.2.1.1 s (t,x.1.1 + 1,()) x.2.1.2.1).map cr:=List.mem_map_of_mem hy
     rw [oL] at hy'
     show cr y < kH cO x.2.1.1 s x.2.1.2.1
     unfold kH
     split at hy'
     ·rename_i c
      rw [if_pos c]
      obtain ⟨z,hz,e⟩:=List.mem_map.1 hy'
      rw [<-e];exact h.pr z hz
     ·rename_i c
      rw [if_neg c]
      rcases List.mem_append.1 hy' with hy' | hy'
      ·obtain ⟨z,hz,e⟩:=List.mem_map.1 hy'
       have:=h.pr z hz
       omega
      ·simp at hy';omega
    ·refine (yI h.xP).trans ?_
     rw [h.now]
     exact ((h.perm.filter _).cons _).trans (sP (v:=(t,x.1.1 + 1,())) (c:=x.2.1.2.1) h.names).symm
 ·rw [sF h1]
  unfold ek;rw [if_pos h1]
  exact ⟨h,rfl⟩
theorem bO.remove {x:ft} {r:RS} (h:bO x r) (s:aD):bO (dU x s).1 (ed r s).1/\(dU x s).2=(ed r s).2:=by
 have hp:(r.1.filter (dB s)).Perm ((fG cO x.2.1.1 s).map oK):=by rw [B7 h.names];exact h.perm.filter _
 cases c:dy cO x.2.1.1 s with
 | false=>
  have hall:r.1.filter (dB s)=r.1:=filter_all fun y hy e=>by
   obtain ⟨z,hz,rfl⟩:=List.mem_map.1 (h.perm.mem_iff.1 hy)
   have:=lV.2 ⟨z,hz,e⟩
   rw [c] at this;cases this
  rw [uy c]
  unfold ed;rw [if_pos (by rw [hall])]
  exact ⟨h,rfl⟩
 | true=>
  obtain ⟨y,hy,e⟩:=lV.1 c
  have hlt:(r.1.filter (dB s)).length < r.1.length:=List.length_filter_lt_length_iff_exists.2 ⟨oK y,h.perm.mem_iff.2 (List.mem_map_of_mem hy),by rw [ef];exact fun h=>h e⟩
  rw [sJ c]
  unfold ed;rw [if_neg (by omega)]
  refine ⟨⟨h.now,h.lo,h.hi,Nat.le_trans qP.length_le h.len,(qP.map cr).nodup h.born,fun y hy=>h.pr y (qP.subset hy),List.Pairwise.filter _ h.xP,hp⟩,rfl⟩
theorem js {L:List RF} {i:Nat} (h:i < L.length):L.drop i=nth cq L i :: L.drop (i + 1):=dG (t:=cq) h
theorem B8:∀{L:List RF} {s:aD} {i:Nat},(∀j,j < i->¬ (nth cq L j).1=s)->i < L.length->(nth cq L i).1=s->bH L s=((nth cq L i).2.1,(nth cq L i).2.2.1,0)
 | [],_,_,_,h,_=>by simp at h
 | y :: r,s,0,_,_,e=>by unfold bH;rw [if_pos (show y.1=s from e)];rfl
 | y :: r,s,i + 1,hn,h,e=>by
  unfold bH
  rw [if_neg (show ¬ y.1=s from hn 0 (by omega))]
  exact B8 (L:=r) (i:=i) (fun j hj=>hn (j + 1) (by omega)) (by simpa using h) e
theorem Iy {L:List RF} {s:aD} (h:∀j,j < L.length->¬ (nth cq L j).1=s):bH L s=([],0,5):=
 qO fun y hy e=>by
  obtain ⟨j,hj,rfl⟩:=lS (t:=cq) hy
  exact h j hj e
def ct (L:List RF) (s:aD) (e:RF) (i:Nat) (laid:Bool) (out:List RF):Prop:=
 (laid=false->out++iv s e (L.drop i)=iv s e L)/\(laid=true->out++(L.drop i).filter (dB s)=iv s e L)/\out.length<=i + 1/\(laid=false->out.length<=i)
theorem ct.start (L:List RF) (s:aD) (e:RF):ct L s e 0 false []:=⟨fun _=>rfl,fun h=>(by cases h),by simp,fun _=>by simp⟩
theorem ct.put {L:List RF} {s:aD} {e:RF} {i:Nat} {out:List RF} (h:ct L s e i false out) (hi:i < L.length) (hle:(Op.bytesLess s (nth cq L i).1 || s == (nth cq L i).1)=true)
  (hne:¬ (nth cq L i).1=s):ct L s e (i + 1) true (out++[e]++[nth cq L i]):=by
 refine ⟨fun h=>by (cases h),fun _ => ?_,by have:=h.2.2.2 rfl;simp;omega,fun h=>by cases h⟩
 rw [<-h.1 rfl,js hi,iv,if_pos hle,List.filter_cons,if_pos (ef.2 hne)]
 simp
theorem ct.Ff {L:List RF} {s:aD} {e:RF} {i:Nat} {out:List RF} (h:ct L s e i false out) (hi:i < L.length) (hle:(Op.bytesLess s (nth cq L i).1 || s == (nth cq L i).1)=true)
  (hne:(nth cq L i).1=s):ct L s e (i + 1) true (out++[e]):=by
 refine ⟨fun h=>by (cases h),fun _ => ?_,by have:=h.2.2.2 rfl;simp;omega,fun h=>by cases h⟩
 rw [<-h.1 rfl,js hi,iv,if_pos hle,List.filter_cons,if_neg (fun h=>ef.1 h hne)]
 simp
theorem ct.low {L:List RF} {s:aD} {e:RF} {i:Nat} {out:List RF} (h:ct L s e i false out) (hi:i < L.length) (hle:(Op.bytesLess s (nth cq L i).1 || s == (nth cq L i).1)=false):ct L s e (i + 1) false (out++[nth cq L i]):=by
 refine ⟨fun _ => ?_,fun h=>by (cases h),by have:=h.2.2.2 rfl;simp;omega,fun _=>by have:=h.2.2.2 rfl;simp;omega⟩
 rw [<-h.1 rfl,js hi,iv,if_neg (by rw [hle];simp)]
 simp
theorem ct.high {L:List RF} {s:aD} {e:RF} {i:Nat} {out:List RF} (h:ct L s e i true out) (hi:i < L.length) (hne:¬ (nth cq L i).1=s):ct L s e (i + 1) true (out++[nth cq L i]):=by
 refine ⟨fun h=>by (cases h),fun _ => ?_,by have:=h.2.2.1;simp;omega,fun h=>by cases h⟩
 rw [<-h.2.1 rfl,js hi,List.filter_cons,if_pos (ef.2 hne)]
 simp
theorem ct.skip {L:List RF} {s:aD} {e:RF} {i:Nat} {out:List RF} (h:ct L s e i true out) (hi:i < L.length) (hne:(nth cq L i).1=s):ct L s e (i + 1) true out:=by
 refine ⟨fun h=>by (cases h),fun _ => ?_,by have:=h.2.2.1;omega,fun h=>by cases h⟩
 rw [<-h.2.1 rfl,js hi,List.filter_cons,if_neg (fun h=>ef.1 h hne)]
theorem ct.last {L:List RF} {s:aD} {e:RF} {i:Nat} {out:List RF} (h:ct L s e i false out) (hi:L.length<=i):out++[e]=iv s e L:=by
 rw [<-h.1 rfl,List.drop_eq_nil_of_le hi];rfl
theorem ct.all {L:List RF} {s:aD} {e:RF} {i:Nat} {out:List RF} (h:ct L s e i true out) (hi:L.length<=i):out=iv s e L:=by
 rw [<-h.2.1 rfl,List.drop_eq_nil_of_le hi];simp
theorem Iz {L out T:List RF} {s:aD} {i:Nat} (h:out++(L.drop i).filter (dB s)=T) (hi:i < L.length) (hne:¬ (nth cq L i).1=s):out++[nth cq L i]++(L.drop (i + 1)).filter (dB s)=T:=by
 rw [<-h,js hi,List.filter_cons,if_pos (ef.2 hne)];simp
theorem IA {L out T:List RF} {s:aD} {i:Nat} (h:out++(L.drop i).filter (dB s)=T) (hi:i < L.length) (hne:(nth cq L i).1=s):out++(L.drop (i + 1)).filter (dB s)=T:=by
 rw [<-h,js hi,List.filter_cons,if_neg (fun h=>ef.1 h hne)]
theorem B9 {L out T:List RF} {s:aD} {i:Nat} (h:out++(L.drop i).filter (dB s)=T) (hi:L.length<=i):out=T:=by
 rw [<-h,List.drop_eq_nil_of_le hi];simp
theorem wT {L:List RF} {i:Nat} (hi:i < L.length):(L.take i).map eo++[(nth cq L i).1]=(L.take (i + 1)).map eo:=by
 rw [hY (t:=cq) hi,List.map_append];rfl
theorem DV {x:RS} {s t:aD} (h:¬ aK s=0):ek x s t=(x,aK s):=by unfold ek;rw [if_pos h]
theorem DW {x:RS} {s t:aD} (h:aK s=0) (h1:1200 < t.length):ek x s t=(x,2):=by unfold ek;rw [if_neg (by simp [h]),if_pos h1]
theorem DX {x:RS} {s t:aD} (h:aK s=0) (h1:¬ 1200 < t.length) (h2:(0 < (bH x.1 s).2.2/\x.1.length=6)\/x.2.1=1000000):ek x s t=(x,8):=by unfold ek;rw [if_neg (by simp [h]),if_neg h1,if_pos h2]
theorem oM {x:RS} {s t:aD} (h:aK s=0) (h1:¬ 1200 < t.length) (h2:¬ ((0 < (bH x.1 s).2.2/\x.1.length=6)\/x.2.1=1000000)) :
  ek x s t=((iv s (s,t,x.2.1 + 1,()) x.1,x.2.1 + 1,()),0):=by unfold ek;rw [if_neg (by simp [h]),if_neg h1,if_neg h2]
theorem GC {x:RS} {s:aD} (h:(x.1.filter (dB s)).length=x.1.length):ed x s=(x,5):=by unfold ed;rw [if_pos h]
theorem DY {x:RS} {s:aD} (h:¬ (x.1.filter (dB s)).length=x.1.length):ed x s=((x.1.filter (dB s),x.2),0):=by unfold ed;rw [if_neg h]
end Go.Mrl

namespace Go.Mrl
open Go.Vg
def sQ:aD:=[119,114,105,116,101]
def mh (x:ft × RS) (a:D bT):ft × RS:=
 if a.1=sQ then ((dO x.1 a.2.1 a.2.2.1).1,(ek x.2 a.2.1 a.2.2.1).1) else ((dU x.1 a.2.1).1,(ed x.2 a.2.1).1)
def dw (l:List (D bT)):ft × RS:=l.foldl mh (tH,([],0,()))
theorem IB (l:List (D bT)) (a:D bT):dw (l++[a])=mh (dw l) a:=by simp [dw]
theorem yJ {l:List (D bT)} {i:Nat} (h:i < l.length):dw (l.take (i + 1))=mh (dw (l.take i)) (nth bT l i):=by rw [hY (t:=bT) h,IB]
theorem IC {x:ft × RS} (a:D bT) (h:bO x.1 x.2):bO (mh x a).1 (mh x a).2:=by
 unfold mh
 split
 ·exact (h.write _ _).1
 ·exact (h.remove _).1
theorem yK:∀(l:List (D bT)) {x:ft × RS},bO x.1 x.2->bO (l.foldl mh x).1 (l.foldl mh x).2
 | [],_,h=>h
 | a :: l,_,h=>yK l (IC a h)
theorem bx (l:List (D bT)):bO (dw l).1 (dw l).2:=yK l bO.new
theorem DZ {x:ft × RS} {a:D bT} (h:a.1=sQ):mh x a=((dO x.1 a.2.1 a.2.2.1).1,(ek x.2 a.2.1 a.2.2.1).1):=if_pos h
theorem Ca {x:ft × RS} {a:D bT} (h:¬ a.1=sQ):mh x a=((dU x.1 a.2.1).1,(ed x.2 a.2.1).1):=if_neg h
theorem Cb (x:ft) (s t:aD):0<=(dO x s t).2:=by
 unfold dO;split
 ·exact cj s
 ·split
  ·simp
  ·split <;> simp
theorem AF (x:ft) (s:aD):0<=(dU x s).2:=by unfold dU;split <;> simp
theorem D0 (x:ft) (s:aD):0<=(bS x s).2.2:=by unfold bS;split <;> simp
theorem bO.L0 {x:ft} {r:RS} (h:bO x r):gF (lz x) (r.1.map eo)=true:=by rw [h.list];simp [gF]
theorem bO.GD {x:ft} {r:RS} (h:bO x r):r.1.length<=6:=by rw [h.perm.length_eq,List.length_map];exact h.len
theorem bO.pre {x:ft} {r:RS} (h:bO x r):x.2.1.1.length<=6/\0<=x.1.1/\x.1.1<=1000000:=⟨h.len,h.lo,h.hi⟩
theorem bO.Og {x:ft} {r:RS} (h:bO x r):r.1.length<=6/\0<=r.2.1/\r.2.1<=1000000:=⟨h.GD,by rw [h.now];exact h.lo,by rw [h.now];exact h.hi⟩
theorem bO.Nj {x:ft} {r:RS} (h:bO x r):x.2.1.1.length<=6/\(x.2.1.1.map cr).Nodup:=⟨h.len,h.born⟩
theorem bO.L1 {x:ft} {r:RS} (h:bO x r) (s:aD):cG (aY (bS x s).2.2) (bH r.1 s).2.2=true:=by rw [<-h.read s];exact kb (D0 x s)
theorem bO.Nk {x:ft} {r:RS} (h:bO x r) (s t:aD):cG (aY (dO x s t).2) (ek r s t).2=true:=by rw [<-(h.write s t).2];exact kb (Cb x s t)
theorem bO.Mq {x:ft} {r:RS} (h:bO x r) (s:aD):cG (aY (dU x s).2) (ed r s).2=true:=by rw [<-(h.remove s).2];exact kb (AF x s)
end Go.Mrl

namespace Go.Mrl
open Go.Vg
end Go.Mrl

namespace Go.Mrl
open Go.Vg
def _root_.Go.Vg.L2:List UInt8->UInt8
 | c :: _=>c
 | []=>0
def tI (c:UInt8):List aD->aD
 | []=>[]
 | [x]=>x
 | x :: y :: r=>x++c :: tI c (y :: r)
def parts (c:UInt8):aD->List aD
 | []=>[[]]
 | b :: r=>if b=c then [] :: parts c r else match parts c r with
  | h :: t=>(b :: h) :: t
  | []=>[[b]]
theorem nM (c:UInt8):∀s:aD,parts c s≠[]
 | []=>by simp [parts]
 | b :: r=>by
  unfold parts
  split
  ·simp
  ·split <;> simp
theorem iG {c b:UInt8} {r:aD} (h:b≠c):∃x t,parts c r=x :: t/\parts c (b :: r)=(b :: x) :: t:=by
 cases hp:parts c r with
 | nil=>exact absurd hp (nM c r)
 | cons x t=>
  refine ⟨x,t,rfl,?_⟩
  conv=>lhs;unfold parts
  rw [if_neg h,hp]
theorem ky {c:UInt8} {r:aD}:parts c (c :: r) = [] :: parts c r:=by
 conv=>lhs;unfold parts
 rw [if_pos rfl]
theorem gH {c:UInt8}:∀{x:aD},c∉x->parts c x = [x]
 | [],_=>rfl
 | b :: r,h=>by
  obtain ⟨x,t,h1,h2⟩:=iG (c:=c) (b:=b) (r:=r) (fun e=>h (by simp [e]))
  rw [gH (x:=r) (fun e=>h (by simp [e]))] at h1
  cases h1
  exact h2
theorem dE {c:UInt8}:∀{x:aD} {s:aD},c∉x->parts c (x++c :: s)=x :: parts c s
 | [],s,_=>ky
 | b :: r,s,h=>by
  obtain ⟨x,t,h1,h2⟩:=iG (c:=c) (b:=b) (r:=r++c :: s) (fun e=>h (by simp [e]))
  rw [dE (x:=r) (fun e=>h (by simp [e]))] at h1
  cases h1
  exact h2
theorem uB {c:UInt8}:∀{L:List aD},L≠[]->(∀y∈L,c∉y)->parts c (tI c L)=L
 | [],h,_=>absurd rfl h
 | [x],_,h=>gH (h x (by simp))
 | x :: y :: r,_,h=>by
  show parts c (x++c :: tI c (y :: r))=_
  rw [dE (h x (by simp)),uB (by simp) fun z hz=>h z (List.mem_cons_of_mem _ hz)]
theorem oN (c:UInt8):∀(s:aD),(parts c s).length<=s.length + 1
 | []=>by simp [parts]
 | b :: r=>by
  by_cases h:b=c
  ·subst h;rw [ky];have:=oN b r;simp;omega
  ·obtain ⟨x,t,h1,h2⟩:=iG (c:=c) (b:=b) (r:=r) h
   have:=oN c r
   rw [h1] at this
   rw [h2];simp at this ⊢;omega
theorem kL (c:UInt8):∀(s:aD),∀y∈parts c s,y.length<=s.length
 | [],y,h=>by simp [parts] at h;simp [h]
 | b :: r,y,h=>by
  by_cases hb:b=c
  ·subst hb;rw [ky] at h
   rcases List.mem_cons.1 h with rfl | h
   ·simp
   ·have:=kL b r y h;simp;omega
  ·obtain ⟨x,t,h1,h2⟩:=iG (c:=c) (b:=b) (r:=r) hb
   rw [h2] at h
   rcases List.mem_cons.1 h with rfl | h
   ·have:=kL c r x (by rw [h1];simp);simp;omega
   ·have:=kL c r y (by rw [h1];simp [h]);simp;omega
theorem Cc {b c:UInt8} {l:aD} (h:b≠c):Lib.index (b :: l) [c]=if Lib.index l [c] == -1 then -1 else Lib.index l [c] + 1:=by
 rw [Lib.index];simp [List.isPrefixOf,Ne.symm h]
theorem Cd {c:UInt8} {l:aD}:Lib.index (c :: l) [c]=0:=by
 rw [Lib.index];simp [List.isPrefixOf]
theorem nN (c:UInt8):∀s:aD,Lib.splitK [c] 0 (s.count c) s=parts c s
 | []=>rfl
 | b :: l=>by
  by_cases h:b=c
  ·subst h
   rw [ky,List.count_cons_self,Lib.splitK,Cd,if_neg (by decide),<-nN b l]
   simp
  ·obtain ⟨x,t,h1,h2⟩:=iG (c:=c) (b:=b) (r:=l) h
   rw [h2,List.count_cons_of_ne h]
   rw [<-nN c l] at h1
   cases hk:l.count c with
   | zero=>
    rw [hk] at h1
    simp only [Lib.splitK] at h1 ⊢
    cases h1
    rfl
   | succ k=>
    rw [hk] at h1
    have hi:Lib.index l [c]≠-1:=by
     intro e
     have:=Lib.count_miss (s:=l) (sub:=[c]) e
     rw [Lib.count_one] at this
     omega
    have hge:=Lib.index_ge l [c]
    rw [Lib.splitK,if_neg (by simpa using hi)] at h1
    obtain ⟨i,e⟩:∃i:Nat,Lib.index l [c]=i:=⟨(Lib.index l [c]).toNat,by omega⟩
    have e2:Lib.index (b :: l) [c]=((i + 1:Nat):Int):=by rw [Cc h,if_neg (by simpa using hi),e];rfl
    rw [Lib.splitK,e2,if_neg (by simp;omega)]
    rw [e] at h1
    simp only [Int.toNat_natCast,Nat.add_zero,List.length_singleton,List.take_succ_cons,List.drop_succ_cons,List.cons.injEq] at h1 ⊢
    exact ⟨⟨trivial,h1.1⟩,h1.2⟩
def gZ (c:UInt8) (L:List aD):aD:=L.flatMap (· ++ [c])
theorem sR (c:UInt8) (x:aD) (L:List aD):gZ c (x :: L)=x++c :: gZ c L:=by simp [gZ]
theorem yL (c:UInt8) (L:List aD) (x:aD):gZ c (L++[x])=gZ c L++x++[c]:=by simp [gZ]
theorem yM {c:UInt8}:∀{L:List aD},L≠[]->gZ c L=tI c L++[c]
 | [],h=>absurd rfl h
 | [x],_=>by simp [gZ,tI]
 | x :: y :: r,_=>by
  rw [sR,yM (L:=y :: r) (by simp)];simp [tI]
theorem qQ {c:UInt8}:∀{L:List aD} {x:aD},(∀y∈L,c∉y)->c∉x->parts c (gZ c L++x)=L++[x]
 | [],x,_,h=>by simp [gZ,gH h]
 | y :: r,x,h,hx=>by
  rw [sR,List.append_assoc,List.cons_append,dE (h y (by simp)),qQ (fun z hz=>h z (List.mem_cons_of_mem _ hz)) hx];simp
theorem xQ (x:aD) (c:UInt8):Lib.trimSuffix (x++[c]) [c]=x:=by
 have h:Lib.hasSuffix (x++[c]) [c]=true:=by unfold Lib.hasSuffix;simp [List.isSuffixOf_iff_suffix]
 unfold Lib.trimSuffix
 rw [if_pos h];simp
theorem GF {c:UInt8} {L:List aD} (h:L≠[]) (hf:∀y∈L,c∉y):parts c (Lib.trimSuffix (gZ c L) [c])=L:=by
 rw [yM h,xQ,uB h hf]
end Go.Mrl

namespace Go.Mrl
open Go.Vg
def fA (c:UInt8):Bool:=decide (48<=c.toNat/\c.toNat<=57)
theorem kR {k:Nat} (h:k < 10):(UInt8.ofNat (48 + k)).toNat=48 + k:=by
 rw [UInt8.toNat_ofNat'];omega
theorem gI:∀(u:Nat),∀c∈Lib.decDigits u,48<=c.toNat/\c.toNat<=57:=by
 intro u
 induction u using Nat.strongRecOn with
 | _ u ih=>
  intro c hc
  by_cases h:u < 10
  ·rw [Lib.decDigits,dif_pos h] at hc
   simp only [List.mem_singleton] at hc
   rw [hc,kR h];omega
  ·rw [Lib.decDigits,dif_neg h] at hc
   rcases List.mem_append.1 hc with hc | hc
   ·exact ih _ (by omega) c hc
   ·simp only [List.mem_singleton] at hc
    rw [hc,kR (Nat.mod_lt _ (by decide))];omega
theorem jt (u:Nat):Lib.decDigits u≠[]:=by
 rw [Lib.decDigits];split <;> simp
theorem fK:∀(k u:Nat),u < 10 ^ (k + 1)->(Lib.decDigits u).length<=k + 1
 | 0,u,h=>by rw [Lib.decDigits,dif_pos (by simpa using h)];simp
 | k + 1,u,h=>by
  rw [Lib.decDigits]
  split
  ·simp
  ·have:=fK k (u / 10) (by rw [Nat.pow_succ] at h;omega)
   simp;exact this
def gp (l:aD):Nat:=l.foldl (fun n c=>10 * n + (c.toNat - 48)) 0
theorem sU (l:aD) (c:UInt8):gp (l++[c])=10 * gp l + (c.toNat - 48):=by simp [gp]
theorem Ce:∀u:Nat,gp (Lib.decDigits u)=u:=by
 intro u
 induction u using Nat.strongRecOn with
 | _ u ih=>
  by_cases h:u < 10
  ·rw [Lib.decDigits,dif_pos h]
   show 10 * 0 + ((UInt8.ofNat (48 + u)).toNat - 48)=u
   rw [kR h];omega
  ·rw [Lib.decDigits,dif_neg h,sU,ih _ (by omega),kR (Nat.mod_lt _ (by decide))];omega
theorem Fg:∀(k:Nat) (l:aD),l.length=k->(∀c∈l,48<=c.toNat/\c.toNat<=57)->gp l < 10 ^ k
 | 0,l,hk,_=>by rw [List.eq_nil_of_length_eq_zero hk];decide
 | k + 1,l,hk,h=>by
  have hne:l≠[]:=by rintro rfl;simp at hk
  have e:=List.dropLast_concat_getLast hne
  rw [<-e] at h ⊢
  have h1:=Fg k l.dropLast (by simp;omega) fun x hx=>h x (by simp [hx])
  have h2:=h (l.getLast hne) (by simp)
  rw [sU,Nat.pow_succ];omega
theorem yN:∀(l:aD) (c:UInt8) (a v:Nat),Lib.parseUint10 a l = .ok v->Lib.parseUint10 a (l++[c])=Lib.parseUint10 v [c]
 | [],c,a,v,h=>by simp [Lib.parseUint10] at h;rw [h];rfl
 | b :: l,c,a,v,h=>by
  rw [List.cons_append,Lib.parseUint10]
  rw [Lib.parseUint10] at h
  split at h
  ·rename_i hb
   rw [if_pos hb]
   split at h
   ·cases h
   ·rename_i h1
    rw [if_neg h1]
    split at h
    ·cases h
    ·rename_i h2
     rw [if_neg h2]
     exact yN l c _ v h
  ·cases h
theorem Cf {v d:Nat} (hd:d < 10) (h:10 * v + d < 18446744073709551616):Lib.parseUint10 v [UInt8.ofNat (48 + d)] = .ok (10 * v + d):=by
 unfold Lib.parseUint10
 rw [kR hd,if_pos (by omega),if_neg (by omega),if_neg (by omega)]
 unfold Lib.parseUint10
 congr 1;omega
theorem KI:∀u:Nat,u < 18446744073709551616->Lib.parseUint10 0 (Lib.decDigits u) = .ok u:=by
 intro u
 induction u using Nat.strongRecOn with
 | _ u ih=>
  intro hu
  by_cases h:u < 10
  ·rw [Lib.decDigits,dif_pos h]
   have:=Cf (v:=0) (d:=u) h (by omega)
   simpa using this
  ·rw [Lib.decDigits,dif_neg h,yN _ _ _ _ (ih _ (by omega) (by omega)),Cf (Nat.mod_lt _ (by decide)) (by omega)]
   congr 1;omega
theorem Fh {u:Nat} (hu:u < 18446744073709551616):Lib.parseMag (Lib.decDigits u) = .ok u:=by
 unfold Lib.parseMag
 rw [if_neg (jt u),KI u hu]
theorem ID {n:Int} (h0 : -9223372036854775808<=n) (h1:n<=9223372036854775807):Lib.atoiAll (Lib.itoa n) = .ok n:=by
 by_cases hn:n < 0
 ·have hm:=Fh (u:=n.natAbs) (by omega)
  simp only [Lib.itoa,if_pos hn,Lib.atoiAll]
  rw [if_pos (Or.inr (by decide)),hm]
  simp only
  rw [if_neg (by simp),if_neg (by simp;omega)]
  simp;omega
 ·have hm:=Fh (u:=n.toNat) (by omega)
  simp only [Lib.itoa,if_neg hn,Lib.atoiAll]
  cases hd:Lib.decDigits n.toNat with
  | nil=>exact absurd hd (jt _)
  | cons c r=>
   have hc:=gI n.toNat c (by rw [hd];simp)
   rw [hd] at hm
   simp only
   rw [if_neg (by omega),hm]
   simp only
   rw [if_neg (by omega),if_neg (by omega),if_neg (by omega)]
   congr 1;omega
def da (s:List UInt8):Int × bB:=match Lib.atoiAll s with
 | .ok n=>(n, .nil)
 | Lib.NumEnd.syntax=>(0, .other)
 | .range=>(Lib.atoiSat s, .other)
def dM (s:aD):Option Int:=match Lib.atoiAll s with
 | .ok n=>if Lib.itoa n=s then some n else none
 | _=>none
theorem IE {n:Int} (h0 : -9223372036854775808<=n) (h1:n<=9223372036854775807):dM (Lib.itoa n)=some n:=by
 unfold dM;rw [ID h0 h1];simp
theorem yO {s:aD}:(dM s).isNone=(!(da s).2.isNil || !decide (Lib.itoa (da s).1=s)):=by
 unfold dM da
 cases Lib.atoiAll s with
 | ok v=>simp only [bB.isNil];by_cases h:Lib.itoa v=s <;> simp [h]
 | range=>rfl
 | _=>rfl
def cE (s:aD):aD:=match s with
 | 45 :: r=>r
 | _=>s
def iT (s:aD):Option Int:=
 if (cE s).length < 1\/(cE s).length > 18\/((cE s).head?=some 48/\s.length > 1) then none
 else if (cE s).all fA=true then some (if (cE s).length < s.length then -(gp (cE s):Int) else (gp (cE s):Int)) else none
theorem Cg {u:Nat} (h:(Lib.decDigits u).head?=some 48):u=0:=by
 revert h
 induction u using Nat.strongRecOn with
 | _ u ih=>
  intro h
  by_cases hu:u < 10
  ·rw [Lib.decDigits,dif_pos hu] at h
   simp only [List.head?_cons,Option.some.injEq] at h
   have:=congrArg UInt8.toNat h
   rw [kR hu] at this
   have h48:(48:UInt8).toNat=48:=rfl
   omega
  ·rw [Lib.decDigits,dif_neg hu] at h
   have hne:=jt (u / 10)
   cases hd:Lib.decDigits (u / 10) with
   | nil=>exact absurd hd hne
   | cons c r=>
    rw [hd] at h
    simp only [List.cons_append,List.head?_cons] at h
    have:=ih (u / 10) (by omega) (by rw [hd];exact h)
    omega
theorem Mr {s:aD} (h:∀c∈s,48<=c.toNat/\c.toNat<=57):cE s=s:=by
 unfold cE
 split
 ·rename_i r
  have:=h 45 (by simp)
  have h45:(45:UInt8).toNat=45:=rfl
  omega
 ·rfl
theorem IF {n:Int} (h0 : -999999999999999999<=n) (h1:n<=999999999999999999):iT (Lib.itoa n)=some n:=by
 have hall:∀u,(Lib.decDigits u).all fA=true:=fun u=>by
  rw [List.all_eq_true]
  intro c hc
  have:=gI u c hc
  unfold fA;simp [this]
 by_cases hn:n < 0
 ·have hm:cE (Lib.itoa n)=Lib.decDigits n.natAbs:=by unfold Lib.itoa;rw [if_pos hn];rfl
  have hl:(Lib.itoa n).length=(Lib.decDigits n.natAbs).length + 1:=by unfold Lib.itoa;rw [if_pos hn];rfl
  have h3:=fK 17 n.natAbs (by omega)
  have h4:=List.length_pos_iff.2 (jt n.natAbs)
  unfold iT
  rw [hm,if_neg (by
   rintro (h | h | ⟨h,_⟩)
   ·omega
   ·omega
   ·have:=Cg h;omega),if_pos (hall _),if_pos (by omega),Ce]
  congr 1;omega
 ·have hi:Lib.itoa n=Lib.decDigits n.toNat:=by unfold Lib.itoa;rw [if_neg hn]
  have hm:cE (Lib.itoa n)=Lib.decDigits n.toNat:=by rw [hi];exact Mr (gI _)
  have h3:=fK 17 n.toNat (by omega)
  have h4:=List.length_pos_iff.2 (jt n.toNat)
  unfold iT
  rw [hm,hi,if_neg (by
   rintro (h | h | ⟨h,h'⟩)
   ·omega
   ·omega
   ·have h0:=Cg h
    rw [h0] at h'
    simp [Lib.decDigits] at h'),if_pos (hall _),if_neg (by omega),Ce]
  congr 1;omega
theorem yP {n:Int} {c:UInt8} (h:c.toNat<=44):c∉Lib.itoa n:=by
 intro hc
 have h45:(45:UInt8).toNat=45:=rfl
 unfold Lib.itoa at hc
 split at hc
 ·rcases List.mem_cons.1 hc with rfl | hc
  ·omega
  ·have:=gI _ c hc;omega
 ·have:=gI _ c hc;omega
def mD (n:Int):Nat:=2 * n.natAbs + (if n < 0 then 1 else 0)
theorem Nl {n:Int} (h:n < 0):mD (-n) < mD n:=by unfold mD;rw [if_neg (by omega),if_pos h];omega
theorem Nn {n:Int} (h:10<=n):mD (n / 10) < mD n:=by unfold mD;rw [if_neg (by omega),if_neg (by omega)];omega
theorem yQ {n:Int} (h:n < 0):Lib.itoa n = [45]++Lib.itoa (-n):=by
 unfold Lib.itoa;rw [if_pos h,if_neg (by omega)];congr 2;omega
theorem nO {n:Int} (h:0<=n) (h':n < 10):Lib.itoa n = [UInt8.ofNat (48 + n).toNat]:=by
 unfold Lib.itoa;rw [if_neg (by omega),Lib.decDigits,dif_pos (by omega)];congr 2;omega
theorem yR {n:Int} (h:10<=n):Lib.itoa n=Lib.itoa (n / 10)++[UInt8.ofNat (48 + n % 10).toNat]:=by
 unfold Lib.itoa;rw [if_neg (by omega),if_neg (by omega)]
 conv=>lhs;rw [Lib.decDigits,dif_neg (by omega)]
 rw [show n.toNat / 10=(n / 10).toNat by omega,show 48 + n.toNat % 10=(48 + n % 10).toNat by omega]
theorem KJ:Lib.itoa (-9223372036854775808) = [45,57,50,50,51,51,55,50,48,51,54,56,53,52,55,55,53,56,48,56]:=by
 rw [yQ (by decide)]
 repeat rw [yR (by decide)]
 rw [nO (by decide) (by decide)]
 decide
theorem Fi {n:Int} (h0 : -9223372036854775808<=n) (h1:n<=9223372036854775807):(Lib.itoa n).length<=21:=by
 unfold Lib.itoa
 split
 ·rw [List.length_cons]
  have:=fK 19 n.natAbs (by omega)
  omega
 ·have:=fK 19 n.toNat (by omega)
  omega
theorem xR {n:Int} (h0:0<=n) (h1:n<=255):bytesOf [IntKind.wrap IntKind.u8 n] = [UInt8.ofNat n.toNat]:=by
 have:IntKind.wrap IntKind.u8 n=n:=by simp [IntKind.wrap,IntKind.signed,IntKind.bits];omega
 rw [this];rfl
end Go.Mrl

namespace Go.Mrl
open Go.Vg
theorem mB {f:Int} (h0:0<=f) (h:(aY f).isNil=false):f > 0:=by
 have:¬ f=0:=fun e=>by rw [bL.2 e] at h;cases h
 omega
theorem lW {f:Int} (h:(aY f).isNil=true):f<=0:=by
 have:=bL.1 h;omega
theorem yS {t:Ty} {l:List (D t)} {i j:Nat} (h:j < i):nth t (List.drop 0 (List.take i l)) j=nth t l j:=by
 rw [List.drop_zero,BT h]
theorem yT {α:Type} {l:List α} {i:Nat} (h:i<=l.length):(List.drop 0 (List.take i l)).length=i:=by
 rw [List.drop_zero,List.length_take];omega
def db (b:Bool):List UInt8:=if b=true then [119,101,97,107,32] else []
def qR (s:aD):aD:=[110,101,101,100,32]++s++[10]
def oO (n:Int):aD:=[119,111,114,100,32]++Lib.itoa n++[10]
def sV (y:D aI):aD:=db y.2.2.1++[115,121,109,98,111,108,32]++y.1++[32]++Lib.itoa y.2.1++[10]
def pa (t:D aJ):aD:=
 if t.2.1=1 then [98,97,115,101,32]++Lib.itoa t.1++[32]++Lib.itoa t.2.2.1++[10]
 else if t.2.1=2 then db t.2.2.2.2.1++[119,104,111,108,101,32]++Lib.itoa t.1++[32]++Lib.itoa t.2.2.1++[32]++t.2.2.2.1++[10]
 else db t.2.2.2.2.1++[110,101,97,114,32]++Lib.itoa t.1++[32]++Lib.itoa t.2.2.1++[32]++t.2.2.2.1++[10]
def gh (o:D aA) (i:Nat):aD:=(o.1.take i).flatMap qR
def fL (o:D aA) (i:Nat):aD:=gh o o.1.length++(o.2.1.take i).flatMap oO
def ew (o:D aA) (i:Nat):aD:=fL o o.2.1.length++(o.2.2.1.take i).flatMap sV
def cR (o:D aA) (i:Nat):aD:=ew o o.2.2.1.length++(o.2.2.2.1.take i).flatMap pa
def cT (o:D aA):aD:=cR o o.2.2.2.1.length
def gj (o:D aA):aD × bB:=if bN o≠0 then ([],aY (bN o)) else if (cT o).length > 1200 then ([], .no 2) else (cT o, .nil)
theorem yU {o:D aA} {i:Nat} (h:i < o.1.length):gh o (i + 1)=gh o i++qR (nth .str o.1 i):=by
 unfold gh;rw [gR (t:=.str) h];simp
theorem yV {o:D aA} {i:Nat} (h:i < o.2.1.length):fL o (i + 1)=fL o i++oO (nth (.int .i64) o.2.1 i):=by
 unfold fL;rw [gR (t:=.int .i64) h];simp
theorem sW {o:D aA} {i:Nat} (h:i < o.2.2.1.length):ew o (i + 1)=ew o i++sV (nth aI o.2.2.1 i):=by
 unfold ew;rw [gR (t:=aI) h];simp
theorem sX {o:D aA} {i:Nat} (h:i < o.2.2.2.1.length):cR o (i + 1)=cR o i++pa (nth aJ o.2.2.2.1 i):=by
 unfold cR;rw [gR (t:=aJ) h];simp
theorem yW (o:D aA):fL o 0=gh o o.1.length:=by unfold fL;simp
theorem yX (o:D aA):ew o 0=fL o o.2.1.length:=by unfold ew;simp
theorem yY (o:D aA):cR o 0=ew o o.2.2.1.length:=by unfold cR;simp
def Nm (s:aD):Prop:=s≠[]/\s.length<=8/\∀c∈s,c≠10/\c≠32
def jO (a b x:Int):Prop:=a<=x/\x<=b
structure wU (t:D aJ):Prop where
 a:jO 0 39 t.1
 w:jO (-2147483648) 2147483647 t.2.2.1
 k:t.2.1=1\/t.2.1=2\/t.2.1=3
 base:t.2.1=1->t.2.2.2.1 = []/\t.2.2.2.2.1=false
 nm:t.2.1≠1->Nm t.2.2.2.1
structure fU (o:D aA):Prop where
 n4:o.1.length<=4
 w1:1<=o.2.1.length
 No:o.2.1.length<=40
 s8:o.2.2.1.length<=8
 t6:o.2.2.2.1.length<=6
 AT:∀s∈o.1,Nm s
 words:∀n∈o.2.1,jO (-2147483648) 2147483647 n
 syms:∀y∈o.2.2.1,Nm y.1/\jO 0 39 y.2.1
 GG:∀t∈o.2.2.2.1,wU t
end Go.Mrl

namespace Go.Mrl
open Go.Vg
theorem uC:∀(l p:List aD),eV p l=0->∀s∈l,aK s=0
 | [],_,_,s,h=>absurd h (by simp)
 | x :: r,p,h,s,hs=>by
  have hx:=cj x
  unfold eV at h
  split at h
  ·omega
  ·split at h
   ·cases h
   ·rcases List.mem_cons.1 hs with rfl | hs
    ·omega
    ·exact uC r _ h s hs
theorem uD:∀(l:List Int),fN l=0->∀n∈l,dA n=true
 | [],_,s,h=>absurd h (by simp)
 | x :: r,h,s,hs=>by
  unfold fN at h
  split at h
  ·rename_i hx
   rcases List.mem_cons.1 hs with rfl | hs
   ·exact hx
   ·exact uD r h s hs
  ·cases h
theorem wV (n:Nat):∀(l p:List (D aI)),en n p l=0->∀y∈l,aK y.1=0/\jO 0 (n - 1) y.2.1
 | [],_,_,s,h=>absurd h (by simp)
 | x :: r,p,h,s,hs=>by
  have hx:=cj x.1
  unfold en at h
  split at h
  ·omega
  ·split at h
   ·cases h
   ·rename_i h2
    split at h
    ·cases h
    ·rcases List.mem_cons.1 hs with rfl | hs
     ·exact ⟨by omega,Int.not_lt.1 fun e=>h2 (.inl e),Int.le_sub_one_of_lt (Int.not_le.1 fun e=>h2 (.inr e))⟩
     ·exact wV n r _ h s hs
theorem yZ {n:Nat} {p:Option Int} {t:D aJ} (h:eu n p t=0) :
  jO 0 (n - 1) t.1/\dA t.2.2.1=true/\jO 1 3 t.2.1/\(t.2.1=1->t.2.2.2.1 = []/\t.2.2.2.2.1=false)/\(t.2.1≠1->aK t.2.2.2.1=0):=by
 unfold eu at h
 split at h
 ·cases h
 ·rename_i h1
  split at h
  ·cases h
  ·rename_i h2
   refine ⟨⟨Int.not_lt.1 fun e=>h1 (.inl e),Int.le_sub_one_of_lt (Int.not_le.1 fun e=>h1 (.inr (.inl e)))⟩,?_,⟨Int.not_lt.1 fun e=>h2 (.inl e),Int.not_lt.1 fun e=>h2 (.inr (.inl e))⟩,?_,?_⟩
   ·cases hw:dA t.2.2.1 with
    | true=>rfl
    | false=>exact absurd (.inr (.inr hw)) h1
   ·intro e
    rw [if_pos e] at h
    split at h
    ·cases h
    ·rename_i h3
     refine ⟨Classical.byContradiction fun e=>h3 (.inl e),?_⟩
     cases hb:t.2.2.2.2.1 with
     | false=>rfl
     | true=>exact absurd (.inr hb) h3
   ·intro e
    rw [if_neg e] at h
    exact h
theorem qS (n:Nat):∀(l:List (D aJ)) (p:Option Int),fT n p l=0->∀t∈l,∃p,eu n p t=0
 | [],_,_,s,h=>absurd h (by simp)
 | x :: r,p,h,s,hs=>by
  unfold fT at h
  split at h
  ·rename_i h0;exact absurd h h0
  ·rename_i h0
   rcases List.mem_cons.1 hs with rfl | hs
   ·exact ⟨p,Classical.byContradiction h0⟩
   ·exact qS n r _ h s hs
theorem GH {s:aD} (h:aK s=0):Nm s:=by
 unfold aK at h
 split at h
 ·cases h
 ·rename_i hl
  split at h
  ·cases h
  ·rename_i hb
   refine ⟨by rintro rfl;simp at hl,by omega,fun c hc => ?_⟩
   obtain ⟨i,hi,rfl⟩:=List.getElem_of_mem hc
   have hn:fg i (bX s i)=false:=by
    unfold pP at hb
    rw [Bool.not_eq_true,List.any_eq_false] at hb
    have:=hb i (by simpa using hi)
    simpa using this
   have he:bX s i=s[i]:=by unfold bX;simp [hi]
   rw [he] at hn
   constructor
   ·intro e;rw [e] at hn;unfold fg small other at hn;simp at hn
   ·intro e;rw [e] at hn;unfold fg small other at hn;simp at hn
theorem three {x:Int} (h:1<=x) (h':x<=3):x=1\/x=2\/x=3:=by omega
theorem ee {o:D aA} (h:bN o=0):fU o:=by
 unfold bN at h
 split at h
 ·cases h
 ·rename_i hm
  split at h
  ·rename_i h1;exact absurd h h1
  ·rename_i h1
   split at h
   ·rename_i h2;exact absurd h h2
   ·rename_i h2
    split at h
    ·rename_i h3;exact absurd h h3
    ·rename_i h3
     have h1:=Classical.byContradiction h1
     have h2:=Classical.byContradiction h2
     have h3:=Classical.byContradiction h3
     unfold dn at hm
     have hw:o.2.1.length<=40:=Nat.not_lt.1 fun e=>hm (.inr (.inr (.inl e)))
     refine ⟨Nat.not_lt.1 fun e=>hm (.inl e),Nat.not_lt.1 fun e=>hm (.inr (.inl e)),hw,Nat.not_lt.1 fun e=>hm (.inr (.inr (.inr (.inl e)))),Nat.not_lt.1 fun e=>hm (.inr (.inr (.inr (.inr e)))),
      fun s hs=>GH (uC _ _ h1 s hs),fun n hn => ?_,fun y hy => ?_,fun t ht => ?_⟩
     ·have:=uD _ h2 n hn
      unfold dA at this
      simp only [Bool.and_eq_true,decide_eq_true_eq] at this
      exact this
     ·obtain ⟨a,b,c⟩:=wV _ _ _ h3 y hy
      exact ⟨GH a,b,Int.le_trans c (by omega)⟩
     ·obtain ⟨p,hp⟩:=qS _ _ _ h t ht
      obtain ⟨⟨a,b⟩,c,⟨d,e⟩,f,g⟩:=yZ hp
      unfold dA at c
      simp only [Bool.and_eq_true,decide_eq_true_eq] at c
      exact ⟨⟨a,Int.le_trans b (by omega)⟩,c,three d e,f,fun e=>GH (g e)⟩
theorem gJ {a b n:Int} (h:jO a b n) (ha : -999999999999999999<=a) (hb:b<=999999999999999999):(Lib.itoa n).length<=19:=by
 obtain ⟨h0,h1⟩:=h
 unfold Lib.itoa
 split
 ·rw [List.length_cons]
  have:=fK 17 n.natAbs (by omega)
  omega
 ·have:=fK 17 n.toNat (by omega)
  omega
theorem oP (b:Bool):(db b).length<=5:=by cases b <;> decide
theorem IG {s:aD} (h:Nm s):(qR s).length<=64:=by have:=h.2.1;simp [qR];omega
theorem IH {n:Int} (h:jO (-2147483648) 2147483647 n):(oO n).length<=64:=by have:=gJ h (by decide) (by decide);simp [oO];omega
theorem KK {y:D aI} (h:Nm y.1/\jO 0 39 y.2.1):(sV y).length<=64:=by
 have h1:=gJ h.2 (by decide) (by decide)
 have h2:=oP y.2.2.1
 have h3:=h.1.2.1
 simp [sV];omega
theorem KL {t:D aJ} (h:wU t):(pa t).length<=64:=by
 have h1:=gJ h.a (by decide) (by decide)
 have h4:=gJ h.w (by decide) (by decide)
 have h2:=oP t.2.2.2.2.1
 unfold pa
 split
 ·simp;omega
 ·rename_i hk
  have h3:=(h.nm hk).2.1
  split
  ·simp;omega
  ·simp;omega
theorem nP {α:Type} {f:α->aD}:∀{l:List α},(∀x∈l,(f x).length<=64)->(l.flatMap f).length<=64 * l.length
 | [],_=>by simp
 | x :: r,h=>by
  have h1:=h x (by simp)
  have h2:=nP (f:=f) (l:=r) fun y hy=>h y (List.mem_cons_of_mem _ hy)
  rw [List.flatMap_cons,List.length_append,List.length_cons];omega
theorem fU.Np {o:D aA} (h:fU o) (i:Nat):(gh o i).length<=1000:=by
 have:=nP (f:=qR) (l:=o.1.take i) fun s hs=>IG (h.AT s (List.mem_of_mem_take hs))
 have h2:=h.n4
 unfold gh;simp only [List.length_take] at this;omega
theorem fU.Nq {o:D aA} (h:fU o) (i:Nat):(fL o i).length<=4000:=by
 have h0:=h.Np o.1.length
 have:=nP (f:=oO) (l:=o.2.1.take i) fun s hs=>IH (h.words s (List.mem_of_mem_take hs))
 have h2:=h.No
 unfold fL;rw [List.length_append];simp only [List.length_take] at this;omega
theorem fU.Nr {o:D aA} (h:fU o) (i:Nat):(ew o i).length<=5000:=by
 have h0:=h.Nq o.2.1.length
 have:=nP (f:=sV) (l:=o.2.2.1.take i) fun s hs=>KK (h.syms s (List.mem_of_mem_take hs))
 have h2:=h.s8
 unfold ew;rw [List.length_append];simp only [List.length_take] at this;omega
theorem fU.Oh {o:D aA} (h:fU o) (i:Nat):(cR o i).length<=6000:=by
 have h0:=h.Nr o.2.2.1.length
 have:=nP (f:=pa) (l:=o.2.2.2.1.take i) fun s hs=>KL (h.GG s (List.mem_of_mem_take hs))
 have h2:=h.t6
 unfold cR;rw [List.length_append];simp only [List.length_take] at this;omega
theorem fU.nQ {o:D aA} (h:fU o) {i:Nat} (hi:i < o.1.length):Nm (nth .str o.1 i):=h.AT _ (gr (t:=.str) hi)
theorem fU.word {o:D aA} (h:fU o) {i:Nat} (hi:i < o.2.1.length):jO (-2147483648) 2147483647 (nth (.int .i64) o.2.1 i):=h.words _ (gr (t:=.int .i64) hi)
theorem fU.sym {o:D aA} (h:fU o) {i:Nat} (hi:i < o.2.2.1.length):Nm (nth aI o.2.2.1 i).1/\jO 0 39 (nth aI o.2.2.1 i).2.1:=h.syms _ (gr (t:=aI) hi)
theorem fU.tie {o:D aA} (h:fU o) {i:Nat} (hi:i < o.2.2.2.1.length):wU (nth aJ o.2.2.2.1 i):=h.GG _ (gr (t:=aJ) hi)
theorem D1 (a b:aD):cD a++cD b=cD (a++b):=by simp [cD]
theorem sY {o:D aA} (h:fU o) {i:Nat} (hi:i < o.1.length):(nth .str o.1 i).length<=8/\(gh o i).length<=1000:=⟨(h.nQ hi).2.1,h.Np i⟩
theorem sZ {o:D aA} (h:fU o) {i:Nat} (hi:i < o.2.1.length):(Lib.itoa (nth (.int .i64) o.2.1 i)).length<=19/\(fL o i).length<=4000:=
 ⟨gJ (h.word hi) (by decide) (by decide),h.Nq i⟩
theorem vt {o:D aA} (h:fU o) {i:Nat} (hi:i < o.2.2.1.length) :
  (nth aI o.2.2.1 i).1.length<=8/\(Lib.itoa (nth aI o.2.2.1 i).2.1).length<=19/\(db (nth aI o.2.2.1 i).2.2.1).length<=5/\(ew o i).length<=5000:=
 ⟨(h.sym hi).1.2.1,gJ (h.sym hi).2 (by decide) (by decide),oP _,h.Nr i⟩
theorem vu {o:D aA} (h:fU o) {i:Nat} (hi:i < o.2.2.2.1.length) :
  (nth aJ o.2.2.2.1 i).2.2.2.1.length<=8/\(Lib.itoa (nth aJ o.2.2.2.1 i).1).length<=19/\(Lib.itoa (nth aJ o.2.2.2.1 i).2.2.1).length<=19/\(db (nth aJ o.2.2.2.1 i).2.2.2.2.1).length<=5/\(cR o i).length<=6000:=by
 have ht:=h.tie hi
 refine ⟨?_,gJ ht.a (by decide) (by decide),gJ ht.w (by decide) (by decide),oP _,h.Oh i⟩
 by_cases hk:(nth aJ o.2.2.2.1 i).2.1=1
 ·rw [(ht.base hk).1];decide
 ·exact (ht.nm hk).2.1
theorem lX {p p' q:aD} {a b:Int} (h:p'=p++q):(((cD p++cD q,a,b,()):D gL))=((cD p',a,b,()):D gL):=by rw [h,D1]
theorem vw {p p':aD} {a b:Int} (h:p=p'):((cD p,a,b,()):D gL)=((cD p',a,b,()):D gL):=by rw [h]
theorem wW {o:D aA} {i:Nat} (h:i < o.2.2.2.1.length) (hk:(nth aJ o.2.2.2.1 i).2.1=1) :
  cR o (i + 1)=cR o i++([98,97,115,101,32]++Lib.itoa (nth aJ o.2.2.2.1 i).1++[32]++Lib.itoa (nth aJ o.2.2.2.1 i).2.2.1++[10]):=by
 rw [sX h];unfold pa;rw [if_pos hk]
theorem qT {o:D aA} {i:Nat} (h:i < o.2.2.2.1.length) (hk:¬ (nth aJ o.2.2.2.1 i).2.1=1) (hk2:(nth aJ o.2.2.2.1 i).2.1=2) :
  cR o (i + 1)=cR o i++(db (nth aJ o.2.2.2.1 i).2.2.2.2.1++[119,104,111,108,101,32]++Lib.itoa (nth aJ o.2.2.2.1 i).1++[32]++Lib.itoa (nth aJ o.2.2.2.1 i).2.2.1++[32]++(nth aJ o.2.2.2.1 i).2.2.2.1++[10]):=by
 rw [sX h];unfold pa;rw [if_neg hk,if_pos hk2]
theorem qU {o:D aA} {i:Nat} (h:i < o.2.2.2.1.length) (hk:¬ (nth aJ o.2.2.2.1 i).2.1=1) (hk2:¬ (nth aJ o.2.2.2.1 i).2.1=2) :
  cR o (i + 1)=cR o i++(db (nth aJ o.2.2.2.1 i).2.2.2.2.1++[110,101,97,114,32]++Lib.itoa (nth aJ o.2.2.2.1 i).1++[32]++Lib.itoa (nth aJ o.2.2.2.1 i).2.2.1++[32]++(nth aJ o.2.2.2.1 i).2.2.2.1++[10]):=by
 rw [sX h];unfold pa;rw [if_neg hk,if_neg hk2]
theorem y5 {o:D aA} (h:bN o≠0):gj o=([],aY (bN o)):=by unfold gj;rw [if_pos h]
theorem wX {o:D aA} (h:bN o=0) {i:Nat} (hi:i=o.2.2.2.1.length) (hl:(cR o i).length > 1200):gj o=([], .no 2):=by
 unfold gj;rw [if_neg (by rw [h];decide),if_pos (by unfold cT;rw [<-hi];exact hl)]
theorem qV {o:D aA} (h:bN o=0) {i:Nat} (hi:i=o.2.2.2.1.length) (hl:(cR o i).length<=1200):gj o=(cR o i, .nil):=by
 unfold gj;rw [if_neg (by rw [h];decide),if_neg (by unfold cT;rw [<-hi];omega)];unfold cT;rw [<-hi]
def gK (o:D aA):aD × Int:=if (cT o).length > 1200 then ([],2) else (cT o,0)
theorem wY {o:D aA} {i:Nat} (hi:i=o.2.2.2.1.length) (hl:(cR o i).length > 1200):gK o=([],2):=by
 unfold gK;rw [if_pos (by unfold cT;rw [<-hi];exact hl)]
theorem qW {o:D aA} {i:Nat} (hi:i=o.2.2.2.1.length) (hl:(cR o i).length<=1200):gK o=(cR o i,0):=by
 unfold gK;rw [if_neg (by unfold cT;rw [<-hi];omega)];unfold cT;rw [<-hi]
@[reducible] def Ch:List aD:=[[],[98,97,115,101],[119,104,111,108,101],[110,101,97,114]]
theorem KM:∀i:Nat,(nth .str [[],[98,97,115,101],[119,104,111,108,101],[110,101,97,114]] i).length<=5
 | 0=>by decide
 | 1=>by decide
 | 2=>by decide
 | 3=>by decide
 | n + 4=>by show ([]:aD).length<=5;decide
theorem fU.kind {o:D aA} (h:fU o) {i:Nat} (hi:i < o.2.2.2.1.length):jO 1 3 (nth aJ o.2.2.2.1 i).2.1:=by
 rcases (h.tie hi).k with e | e | e <;> rw [e] <;> exact ⟨by decide,by decide⟩
theorem Ns {o:D aA} {i:Nat} (hi:i < o.2.2.2.1.length) (h:fU o) (hw:(nth aJ o.2.2.2.1 i).2.2.2.2.1=true) (hk:(nth aJ o.2.2.2.1 i).2.1≠1) :
  cR o i++[119,101,97,107,32]++nth .str Ch (Int.toNat (nth aJ o.2.2.2.1 i).2.1)++[32]++Lib.itoa (nth aJ o.2.2.2.1 i).1++[32]++Lib.itoa (nth aJ o.2.2.2.1 i).2.2.1++[32]++(nth aJ o.2.2.2.1 i).2.2.2.1++[10]=cR o (i + 1):=by
 rcases (h.tie hi).k with e | e | e
 ·exact absurd e hk
 ·rw [qT hi hk e,hw,e];simp [db,nth]
 ·rw [qU hi hk (by rw [e];decide),hw,e];simp [db,nth]
theorem Nt {o:D aA} {i:Nat} (hi:i < o.2.2.2.1.length) (h:fU o) (hw:(nth aJ o.2.2.2.1 i).2.2.2.2.1=false) (hk:(nth aJ o.2.2.2.1 i).2.1≠1) :
  cR o i++nth .str Ch (Int.toNat (nth aJ o.2.2.2.1 i).2.1)++[32]++Lib.itoa (nth aJ o.2.2.2.1 i).1++[32]++Lib.itoa (nth aJ o.2.2.2.1 i).2.2.1++[32]++(nth aJ o.2.2.2.1 i).2.2.2.1++[10]=cR o (i + 1):=by
 rcases (h.tie hi).k with e | e | e
 ·exact absurd e hk
 ·rw [qT hi hk e,hw,e];simp [db,nth]
 ·rw [qU hi hk (by rw [e];decide),hw,e];simp [db,nth]
theorem Nu {o:D aA} {i:Nat} (hi:i < o.2.2.2.1.length) (hk:(nth aJ o.2.2.2.1 i).2.1=1) :
  cR o i++nth .str Ch (Int.toNat (nth aJ o.2.2.2.1 i).2.1)++[32]++Lib.itoa (nth aJ o.2.2.2.1 i).1++[32]++Lib.itoa (nth aJ o.2.2.2.1 i).2.2.1++[10]=cR o (i + 1):=by
 rw [wW hi hk,hk];simp [nth]
theorem Nv {o:D aA} {i:Nat} (hi:i < o.2.2.1.length) (hw:(nth aI o.2.2.1 i).2.2.1=true) :
  ew o i++[119,101,97,107,32]++[115,121,109,98,111,108,32]++(nth aI o.2.2.1 i).1++[32]++Lib.itoa (nth aI o.2.2.1 i).2.1++[10]=ew o (i + 1):=by
 rw [sW hi];unfold sV;rw [hw];simp [db]
theorem Nw {o:D aA} {i:Nat} (hi:i < o.2.2.1.length) (hw:(nth aI o.2.2.1 i).2.2.1=false) :
  ew o i++[115,121,109,98,111,108,32]++(nth aI o.2.2.1 i).1++[32]++Lib.itoa (nth aI o.2.2.1 i).2.1++[10]=ew o (i + 1):=by
 rw [sW hi];unfold sV;rw [hw];simp [db]
theorem N3 {o:D aA} {i:Nat} (hi:i < o.1.length):gh o i++[110,101,101,100,32]++nth .str o.1 i++[10]=gh o (i + 1):=by
 rw [yU hi];unfold qR;simp
theorem N4 {o:D aA} {i:Nat} (hi:i < o.2.1.length):fL o i++[119,111,114,100,32]++Lib.itoa (nth (.int .i64) o.2.1 i)++[10]=fL o (i + 1):=by
 rw [yV hi];unfold oO;simp
theorem Fj {x:Int} (h:x > 1):x≠1:=by omega
theorem II {x:Int} (h:¬ x > 1) (h':jO 1 3 x):x=1:=by obtain ⟨a,b⟩:=h';omega
end Go.Mrl

namespace Go.Mrl
open Go.Vg
@[reducible] def jH:aD:=[119,101,97,107]
@[reducible] def cM:aD:=[119,101,97,107,32]
@[reducible] def dK:aD:=[110,101,101,100]
@[reducible] def dC:aD:=[119,111,114,100]
@[reducible] def cW:aD:=[115,121,109,98,111,108]
@[reducible] def fh:aD:=[98,97,115,101]
@[reducible] def dV:aD:=[119,104,111,108,101]
@[reducible] def eG:aD:=[110,101,97,114]
def hE (o:D aA) (s:aD):D aA:=(o.1++[s],o.2)
def hH (o:D aA) (n:Int):D aA:=(o.1,o.2.1++[n],o.2.2)
def lB (o:D aA) (y:D aI):D aA:=(o.1,o.2.1,o.2.2.1++[y],o.2.2.2)
def fO (o:D aA) (t:D aJ):D aA:=(o.1,o.2.1,o.2.2.1,o.2.2.2.1++[t],())
def vy (x y:aD) (k:Int->Int->D aA):Option (D aA):=
 match dM x,dM y with
 | some m,some n=>some (k m n)
 | _,_=>none
def ju (o:D aA) (b:Bool):List aD->Option (D aA)
 | [a,x]=>if a=dK then some (hE o x) else if a=dC then (dM x).map (hH o) else none
 | [a,x,y]=>if a=cW then (dM y).map fun n=>lB o (x,n,b,()) else if a=fh then vy x y fun m n=>fO o (m,1,n,[],false,()) else none
 | [a,x,y,z]=>if a=dV\/a=eG then vy x y fun m n=>fO o (m,if a=eG then 3 else 2,n,z,b,()) else none
 | _=>none
def lC (o:D aA) (s:aD):Option (D aA):=ju o (Lib.hasPrefix s cM) (parts 32 (Lib.trimPrefix s cM))
def iU (x:aD):Int:=(iT x).getD (-1099511627776)
def eD (o:D aA) (b:Bool):List aD->Option (D aA)
 | [a,x]=>if a=dK then some (hE o x) else if a=dC then some (hH o (iU x)) else none
 | [a,x,y]=>if a=cW then some (lB o (x,iU y,b,())) else if a=fh then some (fO o (iU x,1,iU y,[],b,())) else none
 | [a,x,y,z]=>if a=dV then some (fO o (iU x,2,iU y,z,b,())) else if a=eG then some (fO o (iU x,3,iU y,z,b,())) else none
 | _=>none
def tJ (l:List aD):Bool:=decide (l.headD []=jH)
def wZ (l:List aD):List aD:=if tJ l=true then l.drop 1 else l
def gk (o:D aA) (s:aD):Option (D aA):=eD o (tJ (parts 32 s)) (wZ (parts 32 s))
def run (f:D aA->aD->Option (D aA)):D aA->List aD->Option (D aA)
 | o,[]=>some o
 | o,s :: r=>match f o s with
  | some p=>run f p r
  | none=>none
theorem vz {f:D aA->aD->Option (D aA)}:∀{l:List aD} {o:D aA} {s:aD},run f o (l++[s])=(run f o l).bind fun p=>f p s
 | [],o,s=>by simp only [List.nil_append,run,Option.bind_some];cases f o s <;> rfl
 | x :: r,o,s=>by
  simp only [List.cons_append,run]
  cases f o x with
  | none=>rfl
  | some p=>exact vz
theorem pX {f:D aA->aD->Option (D aA)}:∀{l m:List aD} {o p:D aA},run f o l=some p->run f o (l++m)=run f p m
 | [],m,o,p,h=>by simp only [run,Option.some.injEq] at h;rw [h];rfl
 | x :: r,m,o,p,h=>by
  simp only [run] at h
  simp only [List.cons_append,run]
  cases hx:f o x with
  | none=>rw [hx] at h;cases h
  | some q=>rw [hx] at h;exact pX h
def je (s:aD):aD:=[110,101,101,100,32]++s
def jf (n:Int):aD:=[119,111,114,100,32]++Lib.itoa n
def vA (y:D aI):aD:=db y.2.2.1++([115,121,109,98,111,108,32]++(y.1++32 :: Lib.itoa y.2.1))
def qX (t:D aJ):aD:=
 if t.2.1=1 then [98,97,115,101,32]++(Lib.itoa t.1++32 :: Lib.itoa t.2.2.1)
 else if t.2.1=2 then db t.2.2.2.2.1++([119,104,111,108,101,32]++(Lib.itoa t.1++32 :: (Lib.itoa t.2.2.1++32 :: t.2.2.2.1)))
 else db t.2.2.2.2.1++([110,101,97,114,32]++(Lib.itoa t.1++32 :: (Lib.itoa t.2.2.1++32 :: t.2.2.2.1)))
def lD (o:D aA):List aD:=o.1.map je++(o.2.1.map jf++(o.2.2.1.map vA++o.2.2.2.1.map qX))
theorem nR {α:Type} {f g:α->aD} (h:∀x,f x=g x++[10]):∀l:List α,l.flatMap f=gZ 10 (l.map g)
 | []=>rfl
 | x :: r=>by rw [List.flatMap_cons,nR h r,List.map_cons,sR,h];simp
theorem vB (c:UInt8) (l m:List aD):gZ c (l++m)=gZ c l++gZ c m:=by simp [gZ]
theorem uE (o:D aA):cT o=gZ 10 (lD o):=by
 unfold cT cR ew fL gh lD
 rw [List.take_length,List.take_length,List.take_length,List.take_length,vB,vB,vB,
  nR (g:=je) (fun s=>by simp [qR,je]) o.1,nR (g:=jf) (fun s=>by simp [oO,jf]) o.2.1,
  nR (g:=vA) (fun s=>by simp [sV,vA]) o.2.2.1,
  nR (g:=qX) (fun s=>by unfold pa qX;split <;> (try split) <;> simp) o.2.2.2.1]
 simp
structure Reads (f:D aA->aD->Option (D aA)):Prop where
 nQ:∀(o:D aA) (s:aD),Nm s->f o (je s)=some (hE o s)
 word:∀(o:D aA) (n:Int),jO (-2147483648) 2147483647 n->f o (jf n)=some (hH o n)
 sym:∀(o:D aA) (y:D aI),Nm y.1->jO 0 39 y.2.1->f o (vA y)=some (lB o y)
 tie:∀(o:D aA) (t:D aJ),wU t->f o (qX t)=some (fO o t)
section
variable {f:D aA->aD->Option (D aA)} (h:Reads f)
include h
theorem y7:∀(l:List aD) (o:D aA),(∀s∈l,Nm s)->run f o (l.map je)=some (o.1++l,o.2)
 | [],o,_=>by simp [run]
 | s :: r,o,hl=>by
  rw [List.map_cons,run,h.nQ o s (hl s (by simp))]
  show run f (hE o s) (r.map je)=_
  rw [y7 r _ fun x hx=>hl x (List.mem_cons_of_mem _ hx)]
  simp [hE]
theorem y8:∀(l:List Int) (o:D aA),(∀n∈l,jO (-2147483648) 2147483647 n)->run f o (l.map jf)=some (o.1,o.2.1++l,o.2.2)
 | [],o,_=>by simp [run]
 | s :: r,o,hl=>by
  rw [List.map_cons,run,h.word o s (hl s (by simp))]
  show run f (hH o s) (r.map jf)=_
  rw [y8 r _ fun x hx=>hl x (List.mem_cons_of_mem _ hx)]
  simp [hH]
theorem Ci:∀(l:List (D aI)) (o:D aA),(∀y∈l,Nm y.1/\jO 0 39 y.2.1)->run f o (l.map vA)=some (o.1,o.2.1,o.2.2.1++l,o.2.2.2)
 | [],o,_=>by simp [run]
 | s :: r,o,hl=>by
  rw [List.map_cons,run,h.sym o s (hl s (by simp)).1 (hl s (by simp)).2]
  show run f (lB o s) (r.map vA)=_
  rw [Ci r _ fun x hx=>hl x (List.mem_cons_of_mem _ hx)]
  simp [lB]
theorem Cj:∀(l:List (D aJ)) (o:D aA),(∀t∈l,wU t)->run f o (l.map qX)=some (o.1,o.2.1,o.2.2.1,o.2.2.2.1++l,())
 | [],o,_=>by simp [run]
 | s :: r,o,hl=>by
  rw [List.map_cons,run,h.tie o s (hl s (by simp))]
  show run f (fO o s) (r.map qX)=_
  rw [Cj r _ fun x hx=>hl x (List.mem_cons_of_mem _ hx)]
  simp [fO]
theorem y9 {o:D aA} (ok:fU o):run f (cd aA) (lD o)=some o:=by
 unfold lD
 rw [pX (y7 h o.1 _ ok.AT),pX (y8 h o.2.1 _ ok.words),pX (Ci h o.2.2.1 _ ok.syms),Cj h o.2.2.2.1 _ ok.GG]
 rfl
end
theorem w4 {a:UInt8} {s:aD} (h:a≠119):Lib.hasPrefix (a :: s) cM=false:=by
 unfold Lib.hasPrefix cM;simp [List.isPrefixOf];intro e;exact absurd e.symm h
theorem Ms {s:aD} (h:Lib.hasPrefix s cM=false):Lib.trimPrefix s cM=s:=by unfold Lib.trimPrefix;rw [if_neg (by rw [h];decide)]
theorem Fk (s:aD):Lib.hasPrefix (cM++s) cM=true:=by unfold Lib.hasPrefix cM;simp [List.isPrefixOf]
theorem KN (s:aD):Lib.trimPrefix (cM++s) cM=s:=by unfold Lib.trimPrefix;rw [if_pos (Fk s)];rfl
theorem Fl {a b:UInt8} {s:aD} (h:b≠101):Lib.hasPrefix (a :: b :: s) cM=false:=by
 unfold Lib.hasPrefix cM;simp [List.isPrefixOf];intro _ e;exact absurd e.symm h
theorem jI (o:D aA) (b:Bool) (s:aD) (h:Lib.hasPrefix s cM=false):lC o (db b++s)=ju o b (parts 32 s):=by
 unfold lC
 cases b with
 | false=>show ju o (Lib.hasPrefix s cM) (parts 32 (Lib.trimPrefix s cM))=_;rw [h,Ms h]
 | true=>show ju o (Lib.hasPrefix (cM++s) cM) (parts 32 (Lib.trimPrefix (cM++s) cM))=_;rw [Fk,KN]
theorem jJ (o:D aA) (b:Bool) (s:aD) (h:tJ (parts 32 s)=false):gk o (db b++s)=eD o b (parts 32 s):=by
 unfold gk
 cases b with
 | false=>show eD o (tJ (parts 32 s)) (wZ (parts 32 s))=_;unfold wZ;rw [h,if_neg (by decide)]
 | true=>
  have e:parts 32 (db true++s)=jH :: parts 32 s:=dE (x:=jH) (by decide)
  rw [e]
  rfl
theorem lY {s:aD} (h:Nm s):(32:UInt8)∉s/\(10:UInt8)∉s:=⟨fun hc=>(h.2.2 _ hc).2 rfl,fun hc=>(h.2.2 _ hc).1 rfl⟩
theorem jv (n:Int):(32:UInt8)∉Lib.itoa n:=yP (by decide)
theorem qY (n:Int):(10:UInt8)∉Lib.itoa n:=yP (by decide)
theorem qZ {s:aD} (h:Nm s):parts 32 (je s) = [dK,s]:=by
 show parts 32 (dK++32 :: s)=_
 rw [dE (by decide),gH (lY h).1]
theorem q0 (n:Int):parts 32 (jf n) = [dC,Lib.itoa n]:=by
 show parts 32 (dC++32 :: Lib.itoa n)=_
 rw [dE (by decide),gH (jv n)]
theorem s0 {s:aD} {n:Int} (h:Nm s):parts 32 ([115,121,109,98,111,108,32]++(s++32 :: Lib.itoa n)) = [cW,s,Lib.itoa n]:=by
 show parts 32 (cW++32 :: (s++32 :: Lib.itoa n))=_
 rw [dE (by decide),dE (lY h).1,gH (jv n)]
theorem q7 (m n:Int):parts 32 ([98,97,115,101,32]++(Lib.itoa m++32 :: Lib.itoa n)) = [fh,Lib.itoa m,Lib.itoa n]:=by
 show parts 32 (fh++32 :: (Lib.itoa m++32 :: Lib.itoa n))=_
 rw [dE (by decide),dE (jv m),gH (jv n)]
theorem pb {s:aD} (m n:Int) (h:Nm s):parts 32 ([119,104,111,108,101,32]++(Lib.itoa m++32 :: (Lib.itoa n++32 :: s))) = [dV,Lib.itoa m,Lib.itoa n,s]:=by
 show parts 32 (dV++32 :: (Lib.itoa m++32 :: (Lib.itoa n++32 :: s)))=_
 rw [dE (by decide),dE (jv m),dE (jv n),gH (lY h).1]
theorem q8 {s:aD} (m n:Int) (h:Nm s):parts 32 ([110,101,97,114,32]++(Lib.itoa m++32 :: (Lib.itoa n++32 :: s))) = [eG,Lib.itoa m,Lib.itoa n,s]:=by
 show parts 32 (eG++32 :: (Lib.itoa m++32 :: (Lib.itoa n++32 :: s)))=_
 rw [dE (by decide),dE (jv m),dE (jv n),gH (lY h).1]
theorem tK {a b n:Int} (h:jO a b n) (ha : -9223372036854775808<=a) (hb:b<=9223372036854775807):dM (Lib.itoa n)=some n:=IE (Int.le_trans ha h.1) (Int.le_trans h.2 hb)
theorem tL {a b n:Int} (h:jO a b n) (ha : -999999999999999999<=a) (hb:b<=999999999999999999):iU (Lib.itoa n)=n:=by
 unfold iU;rw [IF (Int.le_trans ha h.1) (Int.le_trans h.2 hb)];rfl
theorem Nx:Reads lC where
 nQ o s h:=by
  have:=jI o false (je s) (w4 (by decide))
  rw [show db false++je s=je s from rfl,qZ h] at this
  exact this
 word o n h:=by
  have:=jI o false (jf n) (Fl (by decide))
  rw [show db false++jf n=jf n from rfl,q0] at this
  rw [this]
  show (if dC=dK then some (hE o (Lib.itoa n)) else if dC=dC then (dM (Lib.itoa n)).map (hH o) else none)=_
  rw [if_neg (by decide),if_pos rfl,tK h (by decide) (by decide)];rfl
 sym o y h h':=by
  have:=jI o y.2.2.1 ([115,121,109,98,111,108,32]++(y.1++32 :: Lib.itoa y.2.1)) (w4 (by decide))
  rw [s0 h] at this
  refine Eq.trans this ?_
  dsimp only [ju]
  rw [if_pos rfl,tK h' (by decide) (by decide)];rfl
 tie o t h:=by
  obtain ⟨at',k,ad,nm,b,_⟩:=t
  have ha:=tK h.a (by decide) (by decide)
  have hw:=tK h.w (by decide) (by decide)
  simp only at ha hw
  unfold qX
  rcases h.k with e | e | e
  ·have hb:=h.base e
   simp only at e hb
   obtain ⟨rfl,rfl⟩:=hb
   subst e
   rw [if_pos rfl]
   have:=jI o false ([98,97,115,101,32]++(Lib.itoa at'++32 :: Lib.itoa ad)) (w4 (by decide))
   rw [q7] at this
   refine this.trans ?_
   dsimp only [ju]
   rw [if_neg (by decide),if_pos rfl];unfold vy;rw [ha,hw]
  ·have hn:=h.nm (by rw [show _=_ from e];decide)
   simp only at e hn
   subst e
   rw [if_neg (by simp),if_pos rfl]
   have:=jI o b ([119,104,111,108,101,32]++(Lib.itoa at'++32 :: (Lib.itoa ad++32 :: nm))) (Fl (by decide))
   rw [pb _ _ hn] at this
   refine this.trans ?_
   dsimp only [ju]
   rw [if_pos (.inl rfl),if_neg (by decide)];unfold vy;rw [ha,hw]
  ·have hn:=h.nm (by rw [show _=_ from e];decide)
   simp only at e hn
   subst e
   rw [if_neg (by simp),if_neg (by simp)]
   have:=jI o b ([110,101,97,114,32]++(Lib.itoa at'++32 :: (Lib.itoa ad++32 :: nm))) (w4 (by decide))
   rw [q8 _ _ hn] at this
   refine this.trans ?_
   dsimp only [ju]
   rw [if_pos (.inr rfl),if_pos rfl];unfold vy;rw [ha,hw]
theorem Ny:Reads gk where
 nQ o s h:=by
  have:=jJ o false (je s) (by rw [qZ h];rfl)
  rw [show db false++je s=je s from rfl,qZ h] at this
  exact this
 word o n h:=by
  have:=jJ o false (jf n) (by rw [q0];rfl)
  rw [show db false++jf n=jf n from rfl,q0] at this
  rw [this]
  show (if dC=dK then some (hE o (Lib.itoa n)) else if dC=dC then some (hH o (iU (Lib.itoa n))) else none)=_
  rw [if_neg (by decide),if_pos rfl,tL h (by decide) (by decide)]
 sym o y h h':=by
  have:=jJ o y.2.2.1 ([115,121,109,98,111,108,32]++(y.1++32 :: Lib.itoa y.2.1)) (by rw [s0 h];rfl)
  rw [s0 h] at this
  refine Eq.trans this ?_
  dsimp only [eD]
  rw [if_pos rfl,tL h' (by decide) (by decide)]
 tie o t h:=by
  obtain ⟨at',k,ad,nm,b,_⟩:=t
  have ha:=tL h.a (by decide) (by decide)
  have hw:=tL h.w (by decide) (by decide)
  simp only at ha hw
  unfold qX
  rcases h.k with e | e | e
  ·have hb:=h.base e
   simp only at e hb
   obtain ⟨rfl,rfl⟩:=hb
   subst e
   rw [if_pos rfl]
   have:=jJ o false ([98,97,115,101,32]++(Lib.itoa at'++32 :: Lib.itoa ad)) (by rw [q7];rfl)
   rw [q7] at this
   refine this.trans ?_
   dsimp only [eD]
   rw [if_neg (by decide),if_pos rfl,ha,hw]
  ·have hn:=h.nm (by rw [show _=_ from e];decide)
   simp only at e hn
   subst e
   rw [if_neg (by simp),if_pos rfl]
   have:=jJ o b ([119,104,111,108,101,32]++(Lib.itoa at'++32 :: (Lib.itoa ad++32 :: nm))) (by rw [pb _ _ hn];rfl)
   rw [pb _ _ hn] at this
   refine this.trans ?_
   dsimp only [eD]
   rw [if_pos rfl,ha,hw]
  ·have hn:=h.nm (by rw [show _=_ from e];decide)
   simp only at e hn
   subst e
   rw [if_neg (by simp),if_neg (by simp)]
   have:=jJ o b ([110,101,97,114,32]++(Lib.itoa at'++32 :: (Lib.itoa ad++32 :: nm))) (by rw [q8 _ _ hn];rfl)
   rw [q8 _ _ hn] at this
   refine this.trans ?_
   dsimp only [eD]
   rw [if_neg (by decide),if_pos rfl,ha,hw]
end Go.Mrl

namespace Go.Mrl
open Go.Vg
theorem w5 {o:D aA} (h:fU o):∀l∈lD o,(10:UInt8)∉l:=by
 intro l hl
 unfold lD at hl
 simp only [List.mem_append,List.mem_map] at hl
 have hw:∀b,(10:UInt8)∉db b:=by intro b;cases b <;> decide
 rcases hl with ⟨s,hs,rfl⟩ | ⟨n,hn,rfl⟩ | ⟨y,hy,rfl⟩ | ⟨t,ht,rfl⟩
 ·have:=(lY (h.AT s hs)).2
  unfold je;simp [this]
 ·have:=qY n
  unfold jf;simp [this]
 ·have h1:=(lY (h.syms y hy).1).2
  have h2:=qY y.2.1
  have h3:=hw y.2.2.1
  unfold vA;simp [h1,h2,h3]
 ·have h1:=qY t.1
  have h2:=qY t.2.2.1
  have h3:=hw t.2.2.2.2.1
  unfold qX
  split
  ·simp [h1,h2]
  ·rename_i hk
   have h4:=(lY ((h.GG t ht).nm hk)).2
   split <;> simp [h1,h2,h3,h4]
theorem KO {o:D aA} (h:fU o):lD o≠[]:=by
 have h1:=h.w1
 unfold lD
 intro e
 simp only [List.append_eq_nil_iff,List.map_eq_nil_iff] at e
 rw [e.2.1] at h1
 simp at h1
def GI (s:aD):Option (D aA):=run lC (cd aA) (parts 10 (Lib.trimSuffix s [10]))
theorem oQ {o:D aA} (h:bN o=0):GI (cT o)=some o:=by
 have ok:=ee h
 unfold GI
 rw [uE,GF (KO ok) (w5 ok),y9 Nx ok]
theorem IJ {o p:D aA} (h:bN o=0) (h':bN p=0) (e:cT o=cT p):o=p:=by
 have a:=oQ h
 rw [e,oQ h'] at a
 exact (Option.some.inj a).symm
open Classical in
noncomputable def ck (s:aD):D aA × Int:=
 if s.length > 1200 then (cd aA,2)
 else if h:∃o:D aA,bN o=0/\cT o=s then (Classical.choose h,0) else (cd aA,4)
theorem s3 {s:aD} (h:s.length > 1200):ck s=(cd aA,2):=by unfold ck;rw [if_pos h]
theorem tM {s:aD} {o:D aA} (h:¬ s.length > 1200) (hf:bN o=0) (ht:cT o=s):ck s=(o,0):=by
 have hx:∃o:D aA,bN o=0/\cT o=s:=⟨o,hf,ht⟩
 have hc:=Classical.choose_spec hx
 unfold ck
 rw [if_neg h,dif_pos hx,IJ hc.1 hf (hc.2.trans ht.symm)]
theorem lZ {s:aD} (h:¬ s.length > 1200) (hn:∀o:D aA,bN o=0->cT o≠s):ck s=(cd aA,4):=by
 unfold ck
 rw [if_neg h,dif_neg fun ⟨o,h1,h2⟩=>hn o h1 h2]
theorem GJ {s:aD} (h:¬ s.length > 1200) (hr:GI s=none):ck s=(cd aA,4):=
 lZ h fun o h1 h2=>by rw [<-h2,oQ h1] at hr;cases hr
theorem w6 {s:aD} {o:D aA} (h:¬ s.length > 1200) (hr:GI s=some o) (hb:bN o=0->cT o≠s):ck s=(cd aA,4):=
 lZ h fun p h1 h2=>by
  have:p=o:=by rw [<-h2,oQ h1] at hr;exact Option.some.inj hr
  rw [this] at h1 h2
  exact hb h1 h2
def pc (s:aD):List aD × Bool:=((parts 10 s).dropLast,decide ((parts 10 s).getLastD [] = []))
theorem Fm {s x:aD} {L:List aD} (h:∀y∈L,(10:UInt8)∉y) (hx:(10:UInt8)∉x) (e:gZ 10 L++x=s):pc s=(L,decide (x = [])):=by
 unfold pc
 rw [<-e,qQ h hx];simp
def GK (s:aD):Option (D aA):=run gk (cd aA) (pc s).1
theorem zA {o:D aA} (h:bN o=0):pc (cT o)=(lD o,true):=by
 have ok:=ee h
 rw [Fm (x:=[]) (w5 ok) (by simp) (by rw [uE];simp)]
 rfl
theorem zB {o:D aA} (h:bN o=0):GK (cT o)=some o:=by
 unfold GK
 rw [zA h,y9 Ny (ee h)]
theorem IK {s:aD} (h:¬ s.length > 1200) (hr:(pc s).2=false):ck s=(cd aA,4):=
 lZ h fun o h1 h2=>by rw [<-h2,zA h1] at hr;cases hr
theorem GL {s:aD} (h:¬ s.length > 1200) (hr:GK s=none):ck s=(cd aA,4):=
 lZ h fun o h1 h2=>by rw [<-h2,zB h1] at hr;cases hr
theorem GM {s:aD} {o:D aA} (h:¬ s.length > 1200) (hr:GK s=some o) (hb:bN o=0->cT o≠s):ck s=(cd aA,4):=
 lZ h fun p h1 h2=>by
  have:p=o:=by rw [<-h2,zB h1] at hr;exact Option.some.inj hr
  rw [this] at h1 h2
  exact hb h1 h2
def dQ (o:D aA) (b:Bool) (s:aD):D aA × Bool:=
 let w:=parts 32 (Lib.trimPrefix s cM)
 if nth .str w 0=dK/\w.length=2 then (hE o (nth .str w 1),b)
 else if nth .str w 0=dC/\w.length=2 then (hH o (da (nth .str w 1)).1,b || (dM (nth .str w 1)).isNone)
 else if nth .str w 0=cW/\w.length=3 then (lB o (nth .str w 1,(da (nth .str w 2)).1,Lib.hasPrefix s cM,()),b || (dM (nth .str w 2)).isNone)
 else if nth .str w 0=fh/\w.length=3 then (fO o ((da (nth .str w 1)).1,1,(da (nth .str w 2)).1,[],false,()),(b || (dM (nth .str w 1)).isNone) || (dM (nth .str w 2)).isNone)
 else if (nth .str w 0=dV\/nth .str w 0=eG)/\w.length=4 then
  (fO o ((da (nth .str w 1)).1,if nth .str w 0=eG then 3 else 2,(da (nth .str w 2)).1,nth .str w 3,Lib.hasPrefix s cM,()),(b || (dM (nth .str w 1)).isNone) || (dM (nth .str w 2)).isNone)
 else (o,true)
theorem kS {s:aD} {n:Int} (h:dM s=some n):(da s).1=n:=by
 unfold dM at h
 unfold da
 cases ha:Lib.atoiAll s with
 | ok v=>rw [ha] at h;simp only at h ⊢;split at h <;> simp_all
 | range=>rw [ha] at h;cases h
 | _=>rw [ha] at h;cases h
theorem GN (o:D aA) (b:Bool) (s:aD):(∃p,lC o s=some p/\dQ o b s=(p,b))\/(lC o s=none/\(dQ o b s).2=true):=by
 unfold lC dQ
 generalize hw:parts 32 (Lib.trimPrefix s cM)=w
 generalize Lib.hasPrefix s cM=k
 have hne:=nM 32 (Lib.trimPrefix s cM)
 rw [hw] at hne
 match w,hne with
 | [],hne=>exact absurd rfl hne
 | [a],_=>exact .inr ⟨rfl,by simp⟩
 | [a,x],_=>
  dsimp only [ju]
  simp only [show nth .str [a,x] 0=a from rfl,show nth .str [a,x] 1=x from rfl]
  by_cases h1:a=dK
  ·rw [if_pos h1,if_pos (show (a=dK)/\[a,x].length=2 from ⟨h1,rfl⟩)];exact .inl ⟨_,rfl,rfl⟩
  ·rw [if_neg h1,if_neg (show ¬ ((a=dK)/\[a,x].length=2) from fun e=>h1 e.1)]
   by_cases h2:a=dC
   ·rw [if_pos h2,if_pos (show (a=dC)/\[a,x].length=2 from ⟨h2,rfl⟩)]
    cases hn:dM x with
    | none=>exact .inr ⟨rfl,by simp⟩
    | some n=>exact .inl ⟨_,rfl,by rw [kS hn];simp⟩
   ·rw [if_neg h2,if_neg (show ¬ ((a=dC)/\[a,x].length=2) from fun e=>h2 e.1),if_neg (show ¬ ((a=cW)/\[a,x].length=3) from fun e=>absurd e.2 (by simp)),if_neg (show ¬ ((a=fh)/\[a,x].length=3) from fun e=>absurd e.2 (by simp)),if_neg (show ¬ ((a=dV\/a=eG)/\[a,x].length=4) from fun e=>absurd e.2 (by simp))];exact .inr ⟨rfl,rfl⟩
 | [a,x,y],_=>
  dsimp only [ju]
  simp only [show nth .str [a,x,y] 0=a from rfl,show nth .str [a,x,y] 1=x from rfl,show nth .str [a,x,y] 2=y from rfl]
  rw [if_neg (show ¬ ((a=dK)/\[a,x,y].length=2) from fun e=>absurd e.2 (by simp)),if_neg (show ¬ ((a=dC)/\[a,x,y].length=2) from fun e=>absurd e.2 (by simp))]
  by_cases h1:a=cW
  ·rw [if_pos h1,if_pos (show (a=cW)/\[a,x,y].length=3 from ⟨h1,rfl⟩)]
   cases hn:dM y with
   | none=>exact .inr ⟨rfl,by simp⟩
   | some n=>exact .inl ⟨_,rfl,by rw [kS hn];simp⟩
  ·rw [if_neg h1,if_neg (show ¬ ((a=cW)/\[a,x,y].length=3) from fun e=>h1 e.1)]
   by_cases h2:a=fh
   ·rw [if_pos h2,if_pos (show (a=fh)/\[a,x,y].length=3 from ⟨h2,rfl⟩)]
    unfold vy
    cases hm:dM x with
    | none=>exact .inr ⟨rfl,by simp⟩
    | some m=>
     cases hn:dM y with
     | none=>exact .inr ⟨rfl,by simp⟩
     | some n=>exact .inl ⟨_,rfl,by rw [kS hn,kS hm];simp⟩
   ·rw [if_neg h2,if_neg (show ¬ ((a=fh)/\[a,x,y].length=3) from fun e=>h2 e.1),if_neg (show ¬ ((a=dV\/a=eG)/\[a,x,y].length=4) from fun e=>absurd e.2 (by simp))];exact .inr ⟨rfl,rfl⟩
 | [a,x,y,z],_=>
  dsimp only [ju]
  simp only [show nth .str [a,x,y,z] 0=a from rfl,show nth .str [a,x,y,z] 1=x from rfl,show nth .str [a,x,y,z] 2=y from rfl,show nth .str [a,x,y,z] 3=z from rfl]
  rw [if_neg (show ¬ ((a=dK)/\[a,x,y,z].length=2) from fun e=>absurd e.2 (by simp)),if_neg (show ¬ ((a=dC)/\[a,x,y,z].length=2) from fun e=>absurd e.2 (by simp)),if_neg (show ¬ ((a=cW)/\[a,x,y,z].length=3) from fun e=>absurd e.2 (by simp)),if_neg (show ¬ ((a=fh)/\[a,x,y,z].length=3) from fun e=>absurd e.2 (by simp))]
  by_cases h1:a=dV\/a=eG
  ·rw [if_pos h1,if_pos (show (a=dV\/a=eG)/\[a,x,y,z].length=4 from ⟨h1,rfl⟩)]
   unfold vy
   cases hm:dM x with
   | none=>exact .inr ⟨rfl,by simp⟩
   | some m=>
    cases hn:dM y with
    | none=>exact .inr ⟨rfl,by simp⟩
    | some n=>exact .inl ⟨_,rfl,by rw [kS hn,kS hm];simp⟩
  ·rw [if_neg h1,if_neg (show ¬ ((a=dV\/a=eG)/\[a,x,y,z].length=4) from fun e=>h1 e.1)];exact .inr ⟨rfl,rfl⟩
 | a :: x :: y :: z :: u :: r,_=>exact .inr ⟨rfl,by simp⟩
theorem IL (o:D aA) (s:aD):(dQ o true s).2=true:=by
 unfold dQ;simp only [Bool.true_or]
 split
 ·rfl
 ·split
  ·rfl
  ·split
   ·rfl
   ·split
    ·rfl
    ·split <;> rfl
theorem IM (o:D aA) (b:Bool) (s:aD) :
  (dQ o b s).1.1.length<=o.1.length + 1/\(dQ o b s).1.2.1.length<=o.2.1.length + 1/\(dQ o b s).1.2.2.1.length<=o.2.2.1.length + 1/\(dQ o b s).1.2.2.2.1.length<=o.2.2.2.1.length + 1:=by
 have e:∀{α:Type} (l:List α) (x:α),(l++[x]).length<=l.length + 1:=fun l x=>by simp
 have e0:∀n:Nat,n<=n + 1:=fun n=>Nat.le_succ n
 unfold dQ
 simp only
 split
 ·exact ⟨e _ _,e0 _,e0 _,e0 _⟩
 ·split
  ·exact ⟨e0 _,e _ _,e0 _,e0 _⟩
  ·split
   ·exact ⟨e0 _,e0 _,e _ _,e0 _⟩
   ·split
    ·exact ⟨e0 _,e0 _,e0 _,e _ _⟩
    ·split
     ·exact ⟨e0 _,e0 _,e0 _,e _ _⟩
     ·exact ⟨e0 _,e0 _,e0 _,e0 _⟩
structure hJ (L:List aD) (i:Nat) (o:D aA) (b:Bool):Prop where
 le:i<=L.length
 st:(run lC (cd aA) (L.take i)=some o/\b=false)\/(run lC (cd aA) (L.take i)=none/\b=true)
 l1:o.1.length<=i
 l2:o.2.1.length<=i
 l3:o.2.2.1.length<=i
 l4:o.2.2.2.1.length<=i
theorem hJ.zero (L:List aD):hJ L 0 (cd aA) false:=⟨Nat.zero_le _, .inl ⟨rfl,rfl⟩,Nat.le_refl _,Nat.le_refl _,Nat.le_refl _,Nat.le_refl _⟩
theorem hJ.next {L:List aD} {i:Nat} {o:D aA} {b:Bool} (h:hJ L i o b) (hi:i < L.length):hJ L (i + 1) (dQ o b (nth .str L i)).1 (dQ o b (nth .str L i)).2:=by
 obtain ⟨a1,a2,a3,a4⟩:=IM o b (nth .str L i)
 refine ⟨hi,?_,by have:=h.l1;omega,by have:=h.l2;omega,by have:=h.l3;omega,by have:=h.l4;omega⟩
 rw [gR (t:=.str) hi,vz]
 rcases h.st with ⟨hr,hb⟩ | ⟨hr,hb⟩
 ·rw [hr,Option.bind_some]
  rcases GN o b (nth .str L i) with ⟨p,h1,h2⟩ | ⟨h1,h2⟩
  ·rw [h2];exact .inl ⟨h1,hb⟩
  ·exact .inr ⟨h1,h2⟩
 ·rw [hr,hb];exact .inr ⟨rfl,IL o _⟩
end Go.Mrl

namespace Go.Mrl
open Go.Vg
abbrev L3:=Unit × List (List UInt8) × List Int × List (D aI) × List (D aJ) × (Bool × Unit) × Unit
def KP (x:L3):D aA:=(x.2.1,x.2.2.1,x.2.2.2.1,x.2.2.2.2.1,())
def IN (p:D aA × Bool):L3:=((),p.1.1,p.1.2.1,p.1.2.2.1,p.1.2.2.2.1,(p.2,()),())
theorem Ck (s p:aD):(Lib.trimPrefix s p).length<=s.length:=by unfold Lib.trimPrefix;split <;> simp
theorem Fo {s:aD} {w:List aD} (hw:w=parts 32 (Lib.trimPrefix s cM)) (i:Nat):(nth .str w i).length<=s.length:=by
 by_cases h:i < w.length
 ·have h1:=gr (t:=.str) h
  rw [hw] at h1
  have:=kL _ _ _ h1
  rw [<-hw] at this
  exact Nat.le_trans this (Ck _ _)
 ·unfold nth;rw [List.getD_eq_getElem?_getD,List.getElem?_eq_none (by omega)];exact Nat.zero_le _
theorem KQ {s:aD} {w:List aD} (hw:w=parts 32 (Lib.trimPrefix s cM)):0 < w.length:=by rw [hw];exact List.length_pos_iff.2 (nM _ _)
theorem dW {c:Bool} {P:Prop} (q:c=true ↔ P) (h:c=false):¬ P:=fun p=>by rw [q.2 p] at h;cases h
section
variable {o:D aA} {b:Bool} {s:aD} {w:List aD} (hw:w=parts 32 (Lib.trimPrefix s cM))
include hw
theorem GO (h:nth .str w 0=dK/\w.length=2):dQ o b s=(hE o (nth .str w 1),b):=by
 unfold dQ;simp only;rw [<-hw,if_pos h]
theorem GP (h0:¬ (nth .str w 0=dK/\w.length=2)) (h:nth .str w 0=dC/\w.length=2):dQ o b s=(hH o (da (nth .str w 1)).1,b || (dM (nth .str w 1)).isNone):=by
 unfold dQ;simp only;rw [<-hw,if_neg h0,if_pos h]
theorem IP (h0:¬ (nth .str w 0=dK/\w.length=2)) (h1:¬ (nth .str w 0=dC/\w.length=2)) (h:nth .str w 0=cW/\w.length=3) :
  dQ o b s=(lB o (nth .str w 1,(da (nth .str w 2)).1,Lib.hasPrefix s cM,()),b || (dM (nth .str w 2)).isNone):=by
 unfold dQ;simp only;rw [<-hw,if_neg h0,if_neg h1,if_pos h]
theorem GQ (h0:¬ (nth .str w 0=dK/\w.length=2)) (h1:¬ (nth .str w 0=dC/\w.length=2)) (h2:¬ (nth .str w 0=cW/\w.length=3)) (h:nth .str w 0=fh/\w.length=3) :
  dQ o b s=(fO o ((da (nth .str w 1)).1,1,(da (nth .str w 2)).1,[],false,()),(b || (dM (nth .str w 1)).isNone) || (dM (nth .str w 2)).isNone):=by
 unfold dQ;simp only;rw [<-hw,if_neg h0,if_neg h1,if_neg h2,if_pos h]
theorem zC (h0:¬ (nth .str w 0=dK/\w.length=2)) (h1:¬ (nth .str w 0=dC/\w.length=2)) (h2:¬ (nth .str w 0=cW/\w.length=3)) (h3:¬ (nth .str w 0=fh/\w.length=3))
  (h:(nth .str w 0=dV\/nth .str w 0=eG)/\w.length=4) {k:Int} (hk:k=if nth .str w 0=eG then 3 else 2) :
  dQ o b s=(fO o ((da (nth .str w 1)).1,k,(da (nth .str w 2)).1,nth .str w 3,Lib.hasPrefix s cM,()),(b || (dM (nth .str w 1)).isNone) || (dM (nth .str w 2)).isNone):=by
 unfold dQ;simp only;rw [<-hw,if_neg h0,if_neg h1,if_neg h2,if_neg h3,if_pos h,hk]
theorem GR (h0:¬ (nth .str w 0=dK/\w.length=2)) (h1:¬ (nth .str w 0=dC/\w.length=2)) (h2:¬ (nth .str w 0=cW/\w.length=3)) (h3:¬ (nth .str w 0=fh/\w.length=3))
  (h:¬ ((nth .str w 0=dV\/nth .str w 0=eG)/\w.length=4)):dQ o b s=(o,true):=by
 unfold dQ;simp only;rw [<-hw,if_neg h0,if_neg h1,if_neg h2,if_neg h3,if_neg h]
end
end Go.Mrl

namespace Go.Mrl
open Go.Vg
structure eY (c:UInt8) (s:aD) (i:Nat) (L:List aD) (x:aD):Prop where
 le:i<=s.length
 eq:gZ c L++x=s.take i
 free:∀y∈L,c∉y
 fx:c∉x
 len:L.length<=i
 lx:x.length<=i
theorem eY.zero (c:UInt8) (s:aD):eY c s 0 [] []:=⟨Nat.zero_le _,rfl,by simp,by simp,by simp,by simp⟩
theorem mC {s:aD} {i:Nat} (h:i < s.length):s.take (i + 1)=s.take i++[bX s i]:=by
 rw [List.take_add_one,yz h];rfl
theorem eY.cut {c:UInt8} {s:aD} {i:Nat} {L:List aD} {x:aD} (h:eY c s i L x) (hi:i < s.length) (e:bX s i=c):eY c s (i + 1) (L++[x]) []:=by
 refine ⟨hi,?_,fun y hy => ?_,by simp,by have:=h.len;simp;omega,by simp⟩
 ·rw [mC hi,<-h.eq,e,yL];simp
 ·rcases List.mem_append.1 hy with hy | hy
  ·exact h.free y hy
  ·simp at hy;subst hy;exact h.fx
theorem eY.more {c:UInt8} {s:aD} {i:Nat} {L:List aD} {x:aD} (h:eY c s i L x) (hi:i < s.length) (e:¬ bX s i=c):eY c s (i + 1) L (x++[bX s i]):=by
 refine ⟨hi,?_,h.free,?_,by have:=h.len;omega,by have:=h.lx;simp;omega⟩
 ·rw [mC hi,<-h.eq];simp
 ·intro hc
  rcases List.mem_append.1 hc with hc | hc
  ·exact h.fx hc
  ·simp at hc;exact e hc.symm
theorem eY.done {c:UInt8} {s:aD} {i:Nat} {L:List aD} {x:aD} (h:eY c s i L x) (hi:¬ i < s.length):L++[x]=parts c s:=by
 have e:=h.eq
 rw [List.take_of_length_le (by omega)] at e
 rw [<-e,qQ h.free h.fx]
structure eZ (c:UInt8) (s:aD) (i:Nat) (L:List aD) (f:Nat):Prop where
 le:i<=s.length
 fi:f<=i
 eq:gZ c L=s.take f
 free:∀y∈L,c∉y
 Nz:∀j,f<=j->j < i->¬ bX s j=c
 len:L.length<=i
theorem eZ.zero (c:UInt8) (s:aD):eZ c s 0 [] 0:=⟨Nat.zero_le _,Nat.le_refl _,rfl,by simp,fun j h h'=>by omega,by simp⟩
theorem w7 {c:UInt8} {s:aD} {f i:Nat} (hi:i<=s.length) (h:∀j,f<=j->j < i->¬ bX s j=c):c∉(s.take i).drop f:=by
 intro hc
 obtain ⟨k,hk,e⟩:=List.getElem_of_mem hc
 rw [List.length_drop,List.length_take] at hk
 rw [List.getElem_drop,List.getElem_take] at e
 refine h (f + k) (by omega) (by omega) ?_
 rw [pA (List.getElem?_eq_getElem (show f + k < s.length by omega))]
 exact e
theorem eZ.cut {c:UInt8} {s:aD} {i:Nat} {L:List aD} {f:Nat} (h:eZ c s i L f) (hi:i < s.length) (e:bX s i=c):eZ c s (i + 1) (L++[(s.take i).drop f]) (i + 1):=by
 refine ⟨hi,Nat.le_refl _,?_,fun y hy => ?_,fun j h1 h2=>by omega,by have:=h.len;simp;omega⟩
 ·have hf:=h.fi
  rw [yL,h.eq,mC hi,e]
  congr 1
  have:=List.take_append_drop f (s.take i)
  rw [List.take_take,Nat.min_eq_left hf] at this
  exact this
 ·rcases List.mem_append.1 hy with hy | hy
  ·exact h.free y hy
  ·simp at hy;subst hy;exact w7 h.le h.Nz
theorem eZ.more {c:UInt8} {s:aD} {i:Nat} {L:List aD} {f:Nat} (h:eZ c s i L f) (hi:i < s.length) (e:¬ bX s i=c):eZ c s (i + 1) L f:=by
 refine ⟨hi,by have:=h.fi;omega,h.eq,h.free,fun j h1 h2 => ?_,by have:=h.len;omega⟩
 rcases Nat.lt_or_ge j i with hl | hl
 ·exact h.Nz j h1 hl
 ·rw [show j=i by omega];exact e
theorem eZ.done {s:aD} {i:Nat} {L:List aD} {f:Nat} (h:eZ 10 s i L f) (hi:¬ i < s.length):(L,(f == s.length))=pc s:=by
 have hle:=h.le
 have e:i=s.length:=by omega
 have hx:(10:UInt8)∉s.drop f:=by
  have:=w7 h.le h.Nz
  rwa [List.take_of_length_le (by omega)] at this
 rw [Fm (x:=s.drop f) h.free hx (by rw [h.eq,List.take_append_drop])]
 congr 1
 have:=h.fi
 rw [Bool.eq_iff_iff]
 simp [List.drop_eq_nil_iff]
 omega
theorem IQ {s:aD} (h:0 < s.length) (h2:bX s 0=45):cE s=s.drop 1/\(cE s).length < s.length:=by
 cases s with
 | nil=>simp at h
 | cons c r=>
  have:c=45:=h2
  subst this
  exact ⟨rfl,by simp [cE]⟩
theorem zD {s:aD} (h:¬ (0 < s.length/\bX s 0=45)):cE s=s:=by
 cases s with
 | nil=>rfl
 | cons c r=>
  have:¬ c=45:=fun e=>h ⟨by simp,e⟩
  unfold cE
  split
  ·rename_i e;cases e;exact absurd rfl this
  ·rfl
theorem zE {s:aD} (h:0 < s.length):s.head?=some (bX s 0):=by
 cases s with
 | nil=>simp at h
 | cons c r=>rfl
theorem GS {s:aD} (h:(cE s).length < 1\/(cE s).length > 18):iT s=none:=by
 unfold iT;rw [if_pos];rcases h with h | h;exact .inl h;exact .inr (.inl h)
theorem GU {s:aD} (h:0 < (cE s).length) (h1:bX (cE s) 0=48) (h2:1 < s.length):iT s=none:=by
 unfold iT;rw [if_pos];exact .inr (.inr ⟨by rw [zE h,h1],h2⟩)
theorem Mt {s:aD} (h:¬ (cE s).length < 1) (h':¬ (cE s).length > 18) (h2:¬ (bX (cE s) 0=48/\1 < s.length)) :
  iT s=if (cE s).all fA=true then some (if (cE s).length < s.length then -(gp (cE s):Int) else (gp (cE s):Int)) else none:=by
 unfold iT;rw [if_neg]
 rintro (e | e | ⟨e,e'⟩)
 ·exact h e
 ·exact h' e
 ·rw [zE (by omega)] at e
  exact h2 ⟨Option.some.inj e,e'⟩
theorem NA {s:aD} {p:UInt8->Bool} {i:Nat} (h:i < s.length) (hn:p (bX s i)=false):s.all p=false:=by
 rw [List.all_eq_false]
 exact ⟨bX s i,List.mem_of_getElem? (yz h),by rw [hn];decide⟩
theorem NB {s:aD} {p:UInt8->Bool} (h:∀j,j < s.length->p (bX s j)=true):s.all p=true:=by
 rw [List.all_eq_true]
 intro x hx
 obtain ⟨i,hi,rfl⟩:=List.getElem_of_mem hx
 have:=h i hi
 rwa [pA (List.getElem?_eq_getElem hi)] at this
theorem IS {s:aD} {i:Nat} (h:i < s.length):gp (s.take (i + 1))=10 * gp (s.take i) + ((bX s i).toNat - 48):=by rw [mC h,sU]
def lE (s:aD):Int × Bool:=(match iT s with | some n=>n | none=>0,(iT s).isSome)
def pf (s:aD):Int:=(lE s).1
def mJ (s:aD):Bool:=(lE s).2
def iw (s:aD):List aD:=(pc s).1
def s4 (s:aD):Bool:=(pc s).2
theorem s5 {s:aD} (h:iT s=none):((0:Int),false)=lE s:=by unfold lE;rw [h];rfl
theorem zF {s:aD} {n:Int} (h:iT s=some n):(n,true)=lE s:=by unfold lE;rw [h];rfl
theorem w8 {s:aD} (h0:(s.length:Int) > 0) (h1:((bX s 0).toNat:Int)=45):cE s=List.drop 1 (List.take (List.length s) s):=by
 rw [(IQ (by omega) (UInt8.toNat_inj.1 (by rw [Int.ofNat_inj.1 (show ((bX s 0).toNat:Int)=(45:Nat) from h1)];rfl))).1,List.take_length]
theorem w9 {s:aD} (h1:¬ ((bX s 0).toNat:Int)=45):cE s=s:=zD fun h=>h1 (by rw [h.2];rfl)
theorem xa {s:aD} (h0:(s.length:Int)<=0):cE s=s:=zD fun h=>by omega
theorem KR {s t:aD} (hm:cE s=t) (h:t.length < 1\/t.length > 18):((0:Int),false)=lE s:=s5 (GS (by rw [hm];exact h))
theorem IT {s t:aD} (hm:cE s=t) (h:0 < t.length) (h1:((bX t 0).toNat:Int)=48) (h2:1 < s.length):((0:Int),false)=lE s:=
 s5 (GU (by rw [hm];exact h) (by rw [hm];exact UInt8.toNat_inj.1 (by rw [Int.ofNat_inj.1 (show ((bX t 0).toNat:Int)=(48:Nat) from h1)];rfl)) h2)
theorem KS {s t:aD} (hm:cE s=t) {i:Nat} (hi:i < t.length) (h:((bX t i).toNat:Int) < 48\/((bX t i).toNat:Int) > 57):((0:Int),false)=lE s:=by
 refine s5 ?_
 have:(cE s).all fA=false:=by
  rw [hm];exact NA hi (by unfold fA;simp;omega)
 unfold iT
 split
 ·rfl
 ·rw [if_neg (by rw [this];decide)]
theorem KT {c:UInt8} (h:(48:Int)<=(c.toNat:Int)) (h':(c.toNat:Int)<=57):fA c=true:=by unfold fA;simp;omega
theorem uF {s:aD} {i:Nat} (h:i < s.length) (h18:s.length<=18) (hd:∀j,j < i->fA (bX s j)=true):gp (s.take i) < 100000000000000000:=by
 refine Nat.lt_of_lt_of_le (Fg i _ (by simp;omega) fun c hc => ?_) (Nat.le_trans (Nat.pow_le_pow_right (by decide) (show i<=17 by omega)) (by decide))
 obtain ⟨k,hk,rfl⟩:=List.getElem_of_mem hc
 rw [List.length_take] at hk
 have:=hd k (by omega)
 rw [List.getElem_take]
 rw [pA (List.getElem?_eq_getElem (show k < s.length by omega))] at this
 simpa [fA] using this
theorem Cm {s t:aD} (hm:cE s=t) {i:Nat} (hi:i < t.length) (h:(48:Int)<=((bX t i).toNat:Int)) (h':((bX t i).toNat:Int)<=57) {x1 x2:Int} (q1:x1=10 * (gp (List.take i (cE s)):Int))
  (q2:x2=IntKind.wrap IntKind.u8 (((bX t i).toNat:Int) - 48)):x1 + x2=(gp (List.take (i + 1) (cE s)):Int)/\0<=x2/\x2<=9:=by
 have hw:IntKind.wrap IntKind.u8 (((bX t i).toNat:Int) - 48)=((bX t i).toNat:Int) - 48:=by simp [IntKind.wrap,IntKind.signed,IntKind.bits];omega
 rw [hw] at q2
 rw [hm] at q1 ⊢
 rw [IS hi]
 omega
theorem Cn {s t:aD} (hm:cE s=t) (h1:¬ t.length < 1) (h18:t.length<=18) (h0:((bX t 0).toNat:Int)=48->¬ 1 < s.length) {i:Nat} (hi:¬ i < t.length) (hd:∀j,j < i->fA (bX (cE s) j)=true) :
  iT s=some (if t.length < s.length then -(gp (List.take i (cE s)):Int) else (gp (List.take i (cE s)):Int)):=by
 subst hm
 rw [Mt h1 (by omega) (fun h=>h0 (by rw [h.1];rfl) h.2),if_pos (NB fun j hj=>hd j (by omega)),List.take_of_length_le (by omega)]
theorem KU {s t:aD} (hm:cE s=t) (h1:¬ t.length < 1) (h18:t.length<=18) (h0:((bX t 0).toNat:Int)=48->¬ 1 < s.length) {i:Nat} (hi:¬ i < t.length) (hd:∀j,j < i->fA (bX (cE s) j)=true) (hl:t.length < s.length) :
  ((0:Int) - (gp (List.take i (cE s)):Int),true)=lE s:=by
 have:=Cn hm h1 h18 h0 hi hd
 rw [if_pos hl] at this
 rw [<-zF this,Int.zero_sub]
theorem KV {s t:aD} (hm:cE s=t) (h1:¬ t.length < 1) (h18:t.length<=18) (h0:((bX t 0).toNat:Int)=48->¬ 1 < s.length) {i:Nat} (hi:¬ i < t.length) (hd:∀j,j < i->fA (bX (cE s) j)=true) (hl:¬ t.length < s.length) :
  ((gp (List.take i (cE s)):Int),true)=lE s:=by
 have:=Cn hm h1 h18 h0 hi hd
 rw [if_neg hl] at this
 rw [<-zF this]
theorem xb {s:aD} {i:Nat} (h:i < s.length):List.drop i (List.take (Int.toNat ((i:Int) + 1)) s) = [bX s i]:=by
 rw [show Int.toNat ((i:Int) + 1)=i + 1 by omega,mC h,List.drop_append_of_le_length (by simp;omega),List.drop_eq_nil_of_le (by simp;omega)];rfl
theorem Fp {c d:UInt8} {n:Nat} (h:(c.toNat:Int)=n) (hd:d.toNat=n):c=d:=UInt8.toNat_inj.1 (by omega)
theorem Fq {c d:UInt8} {n:Nat} (h:¬ (c.toNat:Int)=n) (hd:d.toNat=n):¬ c=d:=fun e=>h (by rw [e];omega)
end Go.Mrl

namespace Go.Mrl
open Go.Vg
noncomputable def kg (s:aD):D aA × bB:=((ck s).1,aY (ck s).2)
theorem GV {s:aD} (h:s.length > 1200):(cd aA,bB.no 2)=kg s:=by unfold kg;rw [s3 h];rfl
theorem hJ.run {L:List aD} {i:Nat} {o:D aA} {b:Bool} (h:hJ L i o b) (hi:¬ i < L.length):(run lC (cd aA) L=some o/\b=false)\/(run lC (cd aA) L=none/\b=true):=by
 have:=h.st
 rwa [List.take_of_length_le (by omega)] at this
theorem s6 {s:aD} {i:Nat} {o:D aA} {b:Bool} (h:hJ (parts 10 (Lib.trimSuffix s [10])) i o b) (hi:¬ i < (parts 10 (Lib.trimSuffix s [10])).length) (hl:¬ s.length > 1200)
  (hb:b=true\/(gj o).2.isNil=false\/¬ (gj o).1=s):(cd aA,bB.no 4)=kg s:=by
 have:ck s=(cd aA,4):=by
  rcases h.run hi with ⟨hr,h0⟩ | ⟨hr,h0⟩
  ·rcases hb with hb | hb | hb
   ·rw [hb] at h0;cases h0
   ·refine w6 hl hr fun hf ht => ?_
    rw [qV hf rfl (by show (cT o).length<=1200;rw [ht];omega)] at hb
    cases hb
   ·refine w6 hl hr fun hf ht=>hb ?_
    rw [qV hf rfl (by show (cT o).length<=1200;rw [ht];omega)]
    exact ht
  ·exact GJ hl hr
 unfold kg;rw [this];rfl
theorem KW {s:aD} {o:D aA} (hl:¬ s.length > 1200)
  (hn:(gj o).2.isNil=true) (ht:(gj o).1=s):(o,bB.nil)=kg s:=by
 have hf:bN o=0:=by
  apply Classical.byContradiction;intro hf
  rw [y5 hf] at hn
  exact hf (bL.1 hn)
 have hs:cT o=s:=by
  by_cases h:(cT o).length > 1200
  ·rw [wX hf rfl h] at hn;cases hn
  ·rw [qV hf rfl (by show (cT o).length<=1200;omega)] at ht;exact ht
 unfold kg;rw [tM hl hf hs];rfl
theorem Mu (s p:aD):(Lib.trimSuffix s p).length<=s.length:=by unfold Lib.trimSuffix;split <;> simp
theorem IU (s:aD) (h:s.length<=1200):(parts 10 (Lib.trimSuffix s [10])).length<=1201:=by
 have h1:=oN 10 (Lib.trimSuffix s [10])
 have h2:(Lib.trimSuffix s [10]).length<=s.length:=by unfold Lib.trimSuffix;split <;> simp
 omega
theorem GW {s:aD} (h:s.length<=1200) (i:Nat):(nth .str (parts 10 (Lib.trimSuffix s [10])) i).length<=1200:=by
 by_cases hi:i < (parts 10 (Lib.trimSuffix s [10])).length
 ·have:=kL _ _ _ (gr (t:=.str) hi)
  have h2:(Lib.trimSuffix s [10]).length<=s.length:=by unfold Lib.trimSuffix;split <;> simp
  omega
 ·unfold nth;rw [List.getD_eq_getElem?_getD,List.getElem?_eq_none (by omega)];exact Nat.zero_le _
end Go.Mrl

namespace Go.Mrl
open Go.Vg
abbrev Rd:=aD->aD × Int × Int
structure fc (rd:Rd):Prop where
 code:∀s,(rd s).2.2=0\/(rd s).2.2=5
 lF:∃K:List aD,K.length<=6/\∀s,(rd s).2.2=0->s∈K
def cU (ns l:List aD):List aD:=l.foldl (fun ns s=>if ns.any (· == s)=true then ns else ns++[s]) ns
noncomputable def gW (rd:Rd) (s:aD):D aA:=(ck (rd s).1).1
noncomputable def dt (rd:Rd) (s:aD):Int:=if (rd s).2.2=0 then (ck (rd s).1).2 else (rd s).2.2
noncomputable def lG (rd:Rd):Nat->Nat->List aD->List (D aA)->List aD × List (D aA) × Int
 | 0,_,ns,os=>(ns,os,0)
 | k + 1,i,ns,os=>
  if i < ns.length then
   if dt rd (nth .str ns i)=0 then lG rd k (i + 1) (cU ns (gW rd (nth .str ns i)).1) (os++[gW rd (nth .str ns i)])
   else ([],[],dt rd (nth .str ns i))
  else (ns,os,0)
noncomputable def aL (rd:Rd) (root:aD):List aD × List (D aA) × Int:=lG rd 7 0 [root] []
theorem xc (s:aD):((ck s).2=0/\bN (ck s).1=0/\cT (ck s).1=s)\/ck s=(cd aA,2)\/ck s=(cd aA,4):=by
 by_cases h:s.length > 1200
 ·exact .inr (.inl (s3 h))
 ·by_cases h2:∃o:D aA,bN o=0/\cT o=s
  ·obtain ⟨o,h3,h4⟩:=h2
   rw [tM h h3 h4];exact .inl ⟨rfl,h3,h4⟩
  ·exact .inr (.inr (lZ h fun o h3 h4=>h2 ⟨o,h3,h4⟩))
theorem uG (s:aD):0<=(ck s).2:=by
 rcases xc s with ⟨h,_⟩ | h | h <;> rw [h] <;> decide
theorem xe {s:aD} (h:(ck s).2=0):bN (ck s).1=0:=by
 rcases xc s with ⟨_,h,_⟩ | h' | h'
 ·exact h
 ·rw [h'] at h;cases h
 ·rw [h'] at h;cases h
theorem xS {rd:Rd} (h:fc rd) (s:aD):0<=dt rd s:=by
 unfold dt
 split
 ·exact uG _
 ·rcases h.code s with e | e <;> rw [e] <;> decide
theorem nS {rd:Rd} (h:fc rd) {s:aD} (e:dt rd s=0):(rd s).2.2=0/\(ck (rd s).1).2=0:=by
 unfold dt at e
 rcases h.code s with c | c
 ·rw [if_pos c] at e;exact ⟨c,e⟩
 ·rw [if_neg (by rw [c];decide),c] at e;cases e
theorem s7 {rd:Rd} {s:aD} (e:¬ (rd s).2.2=0):dt rd s=(rd s).2.2:=by unfold dt;rw [if_neg e]
theorem pg {rd:Rd} {s:aD} (e:(rd s).2.2=0):dt rd s=(ck (rd s).1).2:=by unfold dt;rw [if_pos e]
theorem Co (ns:List aD):cU ns []=ns:=rfl
theorem s9 (ns l:List aD) (s:aD):cU ns (s :: l)=cU (if ns.any (· == s)=true then ns else ns++[s]) l:=rfl
theorem IV (ns l:List aD) (s:aD):cU ns (l++[s])=if (cU ns l).any (· == s)=true then cU ns l else cU ns l++[s]:=by
 unfold cU;rw [List.foldl_append];rfl
theorem Fs {ns:List aD} {s:aD}:ns.any (· == s)=true ↔ s∈ns:=by
 rw [List.any_eq_true]
 constructor
 ·rintro ⟨x,hx,e⟩;rw [<-(by simpa using e:x=s)];exact hx
 ·intro h;exact ⟨s,h,by simp⟩
theorem l5:∀(l ns:List aD),∃r,cU ns l=ns++r/\r.length<=l.length/\∀s∈r,s∈l
 | [],ns=>⟨[],by simp [Co],by simp,by simp⟩
 | x :: l,ns=>by
  rw [s9]
  split
  ·obtain ⟨r,h1,h2,h3⟩:=l5 l ns
   exact ⟨r,h1,by simp;omega,fun s hs=>by simp [h3 s hs]⟩
  ·obtain ⟨r,h1,h2,h3⟩:=l5 l (ns++[x])
   refine ⟨x :: r,by rw [h1];simp,by simp;omega,fun s hs => ?_⟩
   rcases List.mem_cons.1 hs with rfl | hs
   ·simp
   ·simp [h3 s hs]
theorem q9:∀(l ns:List aD),ns.Nodup->(cU ns l).Nodup
 | [],ns,h=>h
 | x :: l,ns,h=>by
  rw [s9]
  split
  ·exact q9 l ns h
  ·rename_i hx
   refine q9 l _ ?_
   rw [List.nodup_append]
   refine ⟨h,by simp,fun a ha b hb e=>hx (Fs.2 ?_)⟩
   simp at hb;subst hb;exact e▸ha
theorem Cp:∀(l ns:List aD),∀s∈l,s∈cU ns l
 | [],_,s,h=>by simp at h
 | x :: l,ns,s,h=>by
  rw [s9]
  rcases List.mem_cons.1 h with rfl | h
  ·split
   ·rename_i hx
    obtain ⟨r,h1,_⟩:=l5 l ns
    rw [h1];exact List.mem_append_left _ (Fs.1 hx)
   ·obtain ⟨r,h1,_⟩:=l5 l (ns++[s])
    rw [h1];simp
  ·exact Cp l _ s h
theorem zG {ns l:List aD} {i:Nat} (h:i < l.length):cU ns (l.take (i + 1))=if (cU ns (l.take i)).any (· == nth .str l i)=true then cU ns (l.take i) else cU ns (l.take i)++[nth .str l i]:=by
 rw [gR (t:=.str) h,IV]
theorem zH {t:Ty} {a b:List (D t)} {i:Nat} (h:i < a.length):nth t (a++b) i=nth t a i:=by rw [qJ,if_pos h]
structure fP (rd:Rd) (root:aD) (i:Nat) (ns:List aD) (os:List (D aA)):Prop where
 eq:lG rd (7 - i) i ns os=aL rd root
 le:i<=6
 lo:i<=ns.length
 pos:0 < ns.length
 len:os.length=i
 hi:ns.length<=1 + 4 * i
 head:nth .str ns 0=root
 nd:ns.Nodup
 Ft:∀j,j < i->dt rd (nth .str ns j)=0/\nth aA os j=gW rd (nth .str ns j)
 want:∀j,j < ns.length->j≠0->∃k,k < i/\k < j/\nth .str ns j∈(nth aA os k).1
 nQ:∀j,j < i->∀s∈(nth aA os j).1,s∈ns
theorem fP.zero (rd:Rd) (root:aD):fP rd root 0 [root] []:=
 ⟨rfl,by omega,by simp,by simp,rfl,by simp,rfl,by simp,fun j h=>by omega,fun j h h'=>by simp at h;omega,fun j h=>by omega⟩
theorem fP.room {rd:Rd} {root:aD} {i:Nat} {ns:List aD} {os:List (D aA)} (ok:fc rd) (h:fP rd root i ns os) (hi:i < ns.length) (hf:dt rd (nth .str ns i)=0):i + 1<=6:=by
 obtain ⟨K,hK,hm⟩:=ok.lF
 have hsub:∀y∈ns.take (i + 1),y∈K:=by
  intro y hy
  obtain ⟨j,hj,rfl⟩:=lS (t:=.str) hy
  rw [List.length_take] at hj
  rw [BT (t:=.str) (by omega)]
  refine hm _ (nS ok ?_).1
  rcases Nat.lt_or_ge j i with hl | hl
  ·exact (h.Ft j hl).1
  ·rw [show j=i by omega];exact hf
 have:=sK (h.nd.sublist (List.take_sublist (i + 1) ns)) hsub
 rw [List.length_take] at this
 omega
theorem fP.fuel {rd:Rd} {root:aD} {i:Nat} {ns:List aD} {os:List (D aA)} (h:fP rd root i ns os):lG rd (6 - i + 1) i ns os=aL rd root:=by
 rw [<-h.eq];congr 1;have:=h.le;omega
theorem fP.bad {rd:Rd} {root:aD} {i:Nat} {ns:List aD} {os:List (D aA)} (h:fP rd root i ns os) (hi:i < ns.length) (hf:¬ dt rd (nth .str ns i)=0) :
  aL rd root=([],[],dt rd (nth .str ns i)):=by
 rw [<-h.fuel,lG,if_pos hi,if_neg hf]
theorem fP.done {rd:Rd} {root:aD} {i:Nat} {ns:List aD} {os:List (D aA)} (h:fP rd root i ns os) (hi:¬ i < ns.length):aL rd root=(ns,os,0):=by
 rw [<-h.fuel,lG,if_neg hi]
theorem vC {rd:Rd} (ok:fc rd) {s:aD} (hf:dt rd s=0):fU (gW rd s):=ee (xe (nS ok hf).2)
theorem fP.next {rd:Rd} {root:aD} {i:Nat} {ns:List aD} {os:List (D aA)} (ok:fc rd) (h:fP rd root i ns os) (hi:i < ns.length) (hf:dt rd (nth .str ns i)=0) :
  fP rd root (i + 1) (cU ns (gW rd (nth .str ns i)).1) (os++[gW rd (nth .str ns i)]):=by
 have hr:=h.room ok hi hf
 have ho:=vC ok hf
 obtain ⟨r,h1,h2,h3⟩:=l5 (gW rd (nth .str ns i)).1 ns
 have hn4:=ho.n4
 have hlen:=h.len
 have hhi:=h.hi
 have hpos:=h.pos
 have hos:nth aA (os++[gW rd (nth .str ns i)]) i=gW rd (nth .str ns i):=by rw [qJ,if_neg (by omega),h.len,Nat.sub_self];rfl
 have hns:∀j,j < ns.length->nth .str (cU ns (gW rd (nth .str ns i)).1) j=nth .str ns j:=fun j hj=>by rw [h1,zH (t:=.str) hj]
 have hoj:∀j,j < i->nth aA (os++[gW rd (nth .str ns i)]) j=nth aA os j:=fun j hj=>zH (t:=aA) (by omega)
 refine ⟨?_,hr,by rw [h1,List.length_append];omega,by rw [h1,List.length_append];omega,by rw [List.length_append,h.len];rfl,by rw [h1,List.length_append];omega,
  by rw [hns 0 hpos];exact h.head,q9 _ _ h.nd,fun j hj => ?_,fun j hj h0 => ?_,fun j hj s hs => ?_⟩
 ·rw [<-h.fuel,lG,if_pos hi,if_pos hf];congr 1;omega
 ·rcases Nat.lt_or_ge j i with hl | hl
  ·rw [hns j (by omega),hoj j hl];exact h.Ft j hl
  ·rw [show j=i by omega,hns i hi,hos];exact ⟨hf,rfl⟩
 ·rcases Nat.lt_or_ge j ns.length with hl | hl
  ·obtain ⟨k,k1,k2,k3⟩:=h.want j hl h0
   exact ⟨k,by omega,k2,by rw [hns j hl,hoj k k1];exact k3⟩
  ·refine ⟨i,by omega,by omega,?_⟩
   rw [hos,h1,qJ,if_neg (by omega)]
   refine h3 _ (gr (t:=.str) ?_)
   rw [h1,List.length_append] at hj;omega
 ·rcases Nat.lt_or_ge j i with hl | hl
  ·rw [hoj j hl] at hs
   rw [h1];exact List.mem_append_left _ (h.nQ j hl s hs)
  ·rw [show j=i by omega,hos] at hs
   exact Cp _ _ s hs
structure Scope (rd:Rd) (root:aD) (ns:List aD) (os:List (D aA)):Prop where
 le:ns.length<=6
 pos:0 < ns.length
 len:os.length=ns.length
 head:nth .str ns 0=root
 nd:ns.Nodup
 Ft:∀j,j < ns.length->dt rd (nth .str ns j)=0/\nth aA os j=gW rd (nth .str ns j)
 want:∀j,j < ns.length->j≠0->∃k,k < j/\nth .str ns j∈(nth aA os k).1
 nQ:∀j,j < ns.length->∀s∈(nth aA os j).1,s∈ns
theorem xf {rd:Rd} {root:aD} (ok:fc rd):∀(m i:Nat) (ns:List aD) (os:List (D aA)),m=7 - i->fP rd root i ns os->
  (∃f,0 < f/\aL rd root=([],[],f))\/(∃ns os,aL rd root=(ns,os,0)/\Scope rd root ns os)
 | 0,i,ns,os,hm,h=>by have:=h.le;omega
 | m + 1,i,ns,os,hm,h=>by
  by_cases hi:i < ns.length
  ·by_cases hf:dt rd (nth .str ns i)=0
   ·exact xf ok m (i + 1) _ _ (by omega) (h.next ok hi hf)
   ·have:=xS ok (nth .str ns i)
    exact .inl ⟨_,by omega,h.bad hi hf⟩
  ·have h1:=h.lo
   have h2:=h.le
   have e:i=ns.length:=by omega
   subst e
   exact .inr ⟨ns,os,h.done hi,h2,h.pos,h.len,h.head,h.nd,h.Ft,fun j hj h0=>let ⟨k,_,k2,k3⟩:=h.want j hj h0;⟨k,k2,k3⟩,h.nQ⟩
theorem ph {rd:Rd} (ok:fc rd) (root:aD):(∃f,0 < f/\aL rd root=([],[],f))\/(∃ns os,aL rd root=(ns,os,0)/\Scope rd root ns os):=
 xf ok 7 0 _ _ rfl (fP.zero rd root)
theorem ra {rd:Rd} (ok:fc rd) {root:aD} (h:(aL rd root).2.2=0):Scope rd root (aL rd root).1 (aL rd root).2.1:=by
 rcases ph ok root with ⟨f,hf,e⟩ | ⟨ns,os,e,h'⟩
 ·rw [e] at h;simp only at h;omega
 ·rw [e];exact h'
theorem bO.rd {x:ft} {r:RS} (h:bO x r):bS x=bH r.1:=funext h.read
theorem hZ {x:ft} (h:x.2.1.1.length<=6):fc (bS x):=by
 refine ⟨fun s => ?_,x.2.1.1.map gn,by rw [List.length_map];exact h,fun s hs => ?_⟩
 ·unfold bS;split
  ·exact .inl rfl
  ·exact .inr rfl
 ·by_cases c:dy cO x.2.1.1 s=true
  ·obtain ⟨y,hy,e⟩:=lV.1 c
   rw [<-e];exact List.mem_map_of_mem hy
  ·rw [oI (by simpa using c)] at hs;cases hs
theorem bJ {r:RS} (h:r.1.length<=6):fc (bH r.1):=by
 refine ⟨GB r.1,r.1.map eo,by rw [List.length_map];exact h,fun s hs => ?_⟩
 by_cases c:∃y∈r.1,y.1=s
 ·obtain ⟨y,hy,e⟩:=c
  rw [<-e];exact List.mem_map_of_mem hy
 ·rw [qO fun y hy e=>c ⟨y,hy,e⟩] at hs;cases hs
end Go.Mrl

namespace Go.Mrl
open Go.Vg
section
variable {rd:Rd} {root:aD} {i:Nat} {ns:List aD} {os:List (D aA)}
theorem fP.Cq (ok:fc rd) (h:fP rd root i ns os) (hi:i < ns.length) (he:¬ (rd (nth .str ns i)).2.2=0) :
  aL rd root=([],[],(rd (nth .str ns i)).2.2):=by
 rw [h.bad hi (by rw [s7 he];exact he),s7 he]
theorem fP.Fu (h:fP rd root i ns os) (hi:i < ns.length) (he:(rd (nth .str ns i)).2.2=0) (ho:¬ (ck (rd (nth .str ns i)).1).2=0) :
  aL rd root=([],[],(ck (rd (nth .str ns i)).1).2):=by
 rw [h.bad hi (by rw [pg he];exact ho),pg he]
theorem nj {s:aD} (he:(rd s).2.2=0) (ho:(ck (rd s).1).2=0):dt rd s=0:=by rw [pg he];exact ho
theorem fP.NC (h:fP rd root i ns os):os.length + 1<=1000000000:=by have:=h.len;have:=h.le;omega
theorem fP.IW (h:fP rd root i ns os) (ok:fc rd) {s:aD} (hf:dt rd s=0) (k:Nat):(cU ns (List.take k (gW rd s).1)).length + 1<=1000000000:=by
 obtain ⟨r,h1,h2,_⟩:=l5 (List.take k (gW rd s).1) ns
 have:=(vC ok hf).n4
 have:=h.hi
 have:=h.le
 rw [h1,List.length_append]
 rw [List.length_take] at h2
 omega
theorem tN {l:List aD} {k:Nat} (h:k < l.length) (hn:(cU ns (l.take k)).any (fun x=>x == nth .str l k)=false):cU ns (l.take k)++[nth .str l k]=cU ns (l.take (k + 1)):=by
 rw [zG h,if_neg (by rw [hn];exact Bool.false_ne_true)]
theorem tO {l:List aD} {k:Nat} (h:k < l.length) (hn:(cU ns (l.take k)).any (fun x=>x == nth .str l k)=true):cU ns (l.take k)=cU ns (l.take (k + 1)):=by
 rw [zG h,if_pos hn]
theorem tP {l:List aD} {k:Nat} (h:¬ k < l.length):cU ns (l.take k)=cU ns l:=by rw [List.take_of_length_le (by omega)]
theorem oR (ok:fc rd) {s:aD} (h:(rd s).2.2<=0):(rd s).2.2=0:=by
 rcases ok.code s with e | e <;> omega
theorem xT {s:aD} (h:(ck s).2<=0):(ck s).2=0:=by have:=uG s;omega
theorem KX {l:List aD} {j:Nat} {y:aD} (h:(l.take j).any (fun x=>x == y)=true):true=(l.take (j + 1)).any (fun x=>x == y):=by
 obtain ⟨x,hx,e⟩:=List.any_eq_true.1 h
 exact (List.any_eq_true.2 ⟨x,(List.take_sublist_take_left (Nat.le_succ j)).subset hx,e⟩).symm
theorem KY {l:List aD} {j:Nat} {y:aD} (hj:j < l.length) (h:(l.take j).any (fun x=>x == y)=false):(nth .str l j == y)=(l.take (j + 1)).any (fun x=>x == y):=by
 rw [gR (t:=.str) hj,List.any_append,h];simp
theorem tQ {l:List aD} {j:Nat} {y:aD} {b:Bool} (hj:¬ j < l.length) (h:(l.take j).any (fun x=>x == y)=b):l.any (fun x=>x == y)=b:=by
 rwa [List.take_of_length_le (by omega)] at h
end
end Go.Mrl

namespace Go.Mrl
open Go.Vg
end Go.Mrl
namespace Go.Mrl
open Go.Vg
end Go.Mrl

namespace Go.Mrl
open Go.Vg
end Go.Mrl

namespace Go.Mrl
open Go.Vg
def bK (l:List (D aA)):List Int:=l.map fun o=>(o.2.1.length:Int)
def cf (l:List (D aA)):Ws:=l.map fun o=>o.2.1
theorem xg (l:List (D aA)):(bK l).length=l.length:=by simp [bK]
theorem jK (l:List (D aA)):(cf l).length=l.length:=by simp [cf]
theorem Mv {t u:Ty} {f:D u->D t} {l:List (D u)} {i:Nat} (h:i < l.length):nth t (l.map f) i=f (nth u l i):=by
 unfold nth;rw [List.getD_eq_getElem?_getD,List.getD_eq_getElem?_getD,List.getElem?_map,List.getElem?_eq_getElem h];rfl
theorem lH {l:List (D aA)} {i:Nat} (h:i < l.length):nth dL (cf l) i=(nth aA l i).2.1:=Mv (u:=aA) (t:=dL) h
theorem mi {l:List (D aA)} {i:Nat} (h:i < l.length):bK (l.take (i + 1))=bK (l.take i)++[((nth aA l i).2.1.length:Int)]:=by
 unfold bK;rw [hY (t:=aA) h];simp
theorem uH {l:List (D aA)} {i:Nat} (h:i < l.length):cf (l.take (i + 1))=cf (l.take i)++[(nth aA l i).2.1]:=by
 unfold cf;rw [hY (t:=aA) h];simp
noncomputable def GX (l:List (D aA)) (b:List Int) (i:Nat) (ts:List (D aJ)):List Pt:=ts.map fun t=>((i:Int),t.1,(dk l b i t).1,())
noncomputable def ta (l:List (D aA)) (b:List Int):List (D aA)->Nat->List Pt
 | [],_=>[]
 | o :: r,i=>GX l b i o.2.2.2.1++ta l b r (i + 1)
theorem Fv {l:List (D aA)} {b:List Int} {i:Nat}:∀{ts:List (D aJ)} {out:List Pt},(gl l b i ts out).2.isNil=true->gl l b i ts out=(out++GX l b i ts, .nil)/\∀t∈ts,(dk l b i t).2.isNil=true
 | [],out,_=>⟨by simp [gl,GX],by simp⟩
 | t :: r,out,h=>by
  rw [gl] at h ⊢
  by_cases c:(dk l b i t).2.isNil=true
  ·rw [if_pos c] at h ⊢
   obtain ⟨h1,h2⟩:=Fv h
   refine ⟨by rw [h1];simp [GX],fun u hu => ?_⟩
   rcases List.mem_cons.1 hu with rfl | hu
   ·exact c
   ·exact h2 u hu
  ·rw [if_neg c] at h;exact absurd h c
theorem Fw {l:List (D aA)} {b:List Int}:∀{os:List (D aA)} {i:Nat} {out:List Pt},(gg l b os i out).2.isNil=true->gg l b os i out=(out++ta l b os i, .nil)/\
  ∀k,k < os.length->∀t∈(nth aA os k).2.2.2.1,(dk l b ((i + k:Nat):Int) t).2.isNil=true
 | [],i,out,_=>⟨by simp [gg,ta],fun k hk=>by simp at hk⟩
 | o :: r,i,out,h=>by
  rw [gg] at h ⊢
  unfold fr at h ⊢
  by_cases c:(gl l b i o.2.2.2.1 out).2.isNil=true
  ·rw [if_pos c] at h ⊢
   obtain ⟨h1,h2⟩:=Fv c
   obtain ⟨h3,h4⟩:=Fw h
   refine ⟨by rw [h3,h1];simp [ta],fun k hk => ?_⟩
   rcases k with _ | k
   ·exact h2
   ·have:=h4 k (by simpa using hk)
    rw [show i + 1 + k=i + (k + 1) by omega] at this
    exact this
  ·rw [if_neg c] at h;exact absurd h c
theorem KZ {l:List (D aA)} {b:List Int} (h:(cH (l,b)).2.isNil=true):b.length=l.length/\fD b/\(cH (l,b)).1=ta l b l 0/\∀k,k < l.length->∀t∈(nth aA l k).2.2.2.1,(dk l b (k:Int) t).2.isNil=true:=by
 have h':=h
 unfold cH at h ⊢
 split at h
 ·cases h
 ·rename_i hl
  split at h
  ·rename_i hb
   obtain ⟨h1,h2⟩:=Fw h
   refine ⟨Classical.byContradiction hl,hb,?_,fun k hk t ht=>by have:=h2 k hk t ht;rwa [Nat.zero_add] at this⟩
   rw [if_neg hl,if_pos hb,h1];rfl
  ·cases h
theorem Cr {l:List (D aA)} {b:List Int}:∀{os:List (D aA)} {i:Nat} {p:Pt},p∈ta l b os i->∃k t,k < os.length/\t∈(nth aA os k).2.2.2.1/\p=(((i + k:Nat):Int),t.1,(dk l b ((i + k:Nat):Int) t).1,())
 | [],i,p,h=>by simp [ta] at h
 | o :: r,i,p,h=>by
  rcases List.mem_append.1 h with h | h
  ·obtain ⟨t,ht,rfl⟩:=List.mem_map.1 h
   exact ⟨0,t,by simp,ht,rfl⟩
  ·obtain ⟨k,t,hk,ht,rfl⟩:=Cr h
   exact ⟨k + 1,t,by simp;omega,ht,by rw [show i + 1 + k=i + (k + 1) by omega]⟩
theorem mV (x:List Int × List (D aP)):Told (bW x).2:=by
 unfold bW
 split
 ·rfl
 ·split
  ·rfl
  ·split <;> rfl
theorem K0 (x:Ws × List Pt):Told (eU x).2:=by
 unfold eU;split <;> rfl
theorem rb {e:bB} (h:Told e):aY (eJ e)=e:=by
 cases e with
 | nil=>rfl
 | no m=>
  have h':0 < m:=by have:=h;simpa [Told,cG,eJ] using this
  have h2:¬ m=0:=by omega
  show aY m=_
  unfold aY
  rw [if_neg h2]
 | other=>unfold Told at h;simp [cG] at h
theorem vD {e:bB} (h:Told e) (hn:e.isNil=false):0 < eJ e:=by
 cases e with
 | nil=>cases hn
 | no m=>
  have h':0 < m:=by have:=h;simpa [Told,cG,eJ] using this
  exact h'
 | other=>unfold Told at h;simp [cG] at h
abbrev Rk:=List aD × List (D aA) × List Int × List Pt × Int
noncomputable def bA (rd:Rd) (root:aD):Rk:=
 if ¬ (aL rd root).2.2=0 then ([],[],[],[],(aL rd root).2.2)
 else if (bW (bK (aL rd root).2.1,[])).2.isNil=false then ([],[],[],[],eJ (bW (bK (aL rd root).2.1,[])).2)
 else if (cH ((aL rd root).2.1,(bW (bK (aL rd root).2.1,[])).1)).2.isNil=false then ([],[],[],[],eJ (cH ((aL rd root).2.1,(bW (bK (aL rd root).2.1,[])).1)).2)
 else ((aL rd root).1,(aL rd root).2.1,(bW (bK (aL rd root).2.1,[])).1,(cH ((aL rd root).2.1,(bW (bK (aL rd root).2.1,[])).1)).1,0)
theorem nT {rd:Rd} {root:aD} (h:¬ (aL rd root).2.2=0):bA rd root=([],[],[],[],(aL rd root).2.2):=by unfold bA;rw [if_pos h]
theorem nU {rd:Rd} {root:aD} (h:(aL rd root).2.2=0) (h1:(bW (bK (aL rd root).2.1,[])).2.isNil=false):bA rd root=([],[],[],[],eJ (bW (bK (aL rd root).2.1,[])).2):=by
 unfold bA;rw [if_neg (not_not_intro h),if_pos h1]
theorem re {rd:Rd} {root:aD} (h:(aL rd root).2.2=0) (h1:(bW (bK (aL rd root).2.1,[])).2.isNil=true) (h2:(cH ((aL rd root).2.1,(bW (bK (aL rd root).2.1,[])).1)).2.isNil=false) :
  bA rd root=([],[],[],[],eJ (cH ((aL rd root).2.1,(bW (bK (aL rd root).2.1,[])).1)).2):=by
 unfold bA;rw [if_neg (not_not_intro h),if_neg (by rw [h1];decide),if_pos h2]
theorem pj {rd:Rd} {root:aD} (h:(aL rd root).2.2=0) (h1:(bW (bK (aL rd root).2.1,[])).2.isNil=true) (h2:(cH ((aL rd root).2.1,(bW (bK (aL rd root).2.1,[])).1)).2.isNil=true) :
  bA rd root=((aL rd root).1,(aL rd root).2.1,(bW (bK (aL rd root).2.1,[])).1,(cH ((aL rd root).2.1,(bW (bK (aL rd root).2.1,[])).1)).1,0):=by
 unfold bA;rw [if_neg (not_not_intro h),if_neg (by rw [h1];decide),if_neg (by rw [h2];decide)]
structure jQ (rd:Rd) (root:aD) (ns:List aD) (os:List (D aA)) (bs:List Int) (ps:List Pt):Prop where
 e:aL rd root=(ns,os,0)
 sc:Scope rd root ns os
 eb:bW (bK os,[])=(bs, .nil)
 ea:cH (os,bs)=(ps, .nil)
 bl:bs.length=os.length
 bi:fD bs
 pt:ps=ta os bs os 0
 one:∀k,k < os.length->∀t∈(nth aA os k).2.2.2.1,(dk os bs (k:Int) t).2.isNil=true
 ND:∀i,i < ps.length->oD (cf os) (nth aN ps i)
theorem zI {e:bB} (h:e.isNil=true):e = .nil:=by cases e <;> first | rfl | cases h
theorem Scope.obj {rd:Rd} {root:aD} {ns:List aD} {os:List (D aA)} (ok:fc rd) (h:Scope rd root ns os) {i:Nat} (hi:i < os.length):fU (nth aA os i):=by
 have:=h.Ft i (by rw [<-h.len];exact hi)
 rw [this.2];exact vC ok this.1
theorem fU.K2 {o:D aA} (h:fU o):LZ o:=by
 refine ⟨by have:=h.t6;omega,fun i hi => ?_,fun i hi => ?_⟩
 ·have:=(h.sym hi).2;unfold jO at this;unfold Small;omega
 ·have:=h.tie hi
  have a:=this.a
  have w:=this.w
  unfold jO at a w
  unfold Small Word
  omega
theorem Scope.K2 {rd:Rd} {root:aD} {ns:List aD} {os:List (D aA)} (ok:fc rd) (h:Scope rd root ns os):eC os:=⟨by have:=h.le;have:=h.len;omega,fun _ hi=>(h.obj ok hi).K2⟩
theorem IX {a n:Int} (h:a<=n - 1):a < n:=by omega
theorem D2 {o:D aA} (h:bN o=0):en o.2.1.length [] o.2.2.1=0/\fT o.2.1.length none o.2.2.2.1=0:=by
 unfold bN at h
 split at h
 ·cases h
 ·split at h
  ·rename_i h1;exact absurd h h1
  ·split at h
   ·rename_i h2;exact absurd h h2
   ·split at h
    ·rename_i h3;exact absurd h h3
    ·rename_i h3;exact ⟨Classical.byContradiction h3,h⟩
theorem GY {o:D aA} (h:bN o=0) {t:D aJ} (ht:t∈o.2.2.2.1):0<=t.1/\t.1 < (o.2.1.length:Int):=by
 obtain ⟨p,hp⟩:=qS _ _ _ (D2 h).2 t ht
 obtain ⟨⟨a,b⟩,_⟩:=yZ hp
 exact ⟨a,IX b⟩
theorem Scope.fault {rd:Rd} {root:aD} {ns:List aD} {os:List (D aA)} (ok:fc rd) (h:Scope rd root ns os) {i:Nat} (hi:i < os.length):bN (nth aA os i)=0:=by
 have:=h.Ft i (by rw [<-h.len];exact hi)
 rw [this.2];exact xe (nS ok this.1).2
theorem nV {rd:Rd} (ok:fc rd) (root:aD):(∃f,0 < f/\bA rd root=([],[],[],[],f))\/(∃ns os bs ps,bA rd root=(ns,os,bs,ps,0)/\jQ rd root ns os bs ps):=by
 rcases ph ok root with ⟨f,hf,e⟩ | ⟨ns,os,e,sc⟩
 ·exact .inl ⟨f,hf,by rw [nT (by rw [e];simp only;omega),e]⟩
 ·have e0:(aL rd root).2.2=0:=by rw [e]
  have e1:(aL rd root).2.1=os:=by rw [e]
  have e2:(aL rd root).1=ns:=by rw [e]
  cases hb:(bW (bK os,[])).2.isNil with
  | false=>exact .inl ⟨_,vD (mV _) hb,by rw [nU e0 (by rw [e1];exact hb),e1]⟩
  | true=>
   cases ha:(cH (os,(bW (bK os,[])).1)).2.isNil with
   | false=>exact .inl ⟨_,vD (vq _) ha,by rw [re e0 (by rw [e1];exact hb) (by rw [e1];exact ha),e1]⟩
   | true=>
    obtain ⟨a1,a2,a3,a4⟩:=KZ ha
    refine .inr ⟨ns,os,_,_,by rw [pj e0 (by rw [e1];exact hb) (by rw [e1];exact ha),e1,e2],e,sc,Prod.ext rfl (zI hb),Prod.ext rfl (zI ha),a1,a2,a3,a4,fun i hi => ?_⟩
    obtain ⟨k,t,hk,ht,hp⟩:=Cr (by rw [<-a3];exact gr (t:=aN) hi)
    rw [hp]
    have:=GY (sc.fault ok hk) ht
    refine ⟨by simp only;omega,by simp only;rw [jK];omega,this.1,?_⟩
    simp only [Nat.zero_add]
    rw [show ((k:Int)).toNat=k from rfl,lH hk]
    exact this.2
def c7 (ns:List aD) (bs:List Int) (w:Ws) (n:Nat):List (D bE):=(List.range n).map fun i=>(nth .str ns i,nth (.int .i64) bs i,nth dL w i,())
theorem ep (ns:List aD) (bs:List Int) (w:Ws) (n:Nat):(c7 ns bs w n).length=n:=by simp [c7]
theorem pk (ns:List aD) (bs:List Int) (w:Ws) (n:Nat):c7 ns bs w (n + 1)=c7 ns bs w n++[(nth .str ns n,nth (.int .i64) bs n,nth dL w n,())]:=by simp [c7,List.range_succ]
theorem mW {ns:List aD} {bs:List Int} {w:Ws} {n i:Nat} (h:i < n):nth bE (c7 ns bs w n) i=(nth .str ns i,nth (.int .i64) bs i,nth dL w i,()):=by
 apply dx;simp [c7,h]
noncomputable def iV (ns:List aD) (bs:List Int) (os:List (D aA)) (ps:List Pt):List (D bE) × bB:=
 if ¬ ns.length=os.length\/¬ bs.length=os.length then ([], .no 3)
 else if (eU (cf os,ps)).2.isNil=false then ([],(eU (cf os,ps)).2)
 else (c7 ns bs (eU (cf os,ps)).1 os.length, .nil)
theorem xh {ns:List aD} {bs:List Int} {os:List (D aA)} {ps:List Pt} (h:¬ ns.length=os.length\/¬ bs.length=os.length):iV ns bs os ps=([], .no 3):=by unfold iV;rw [if_pos h]
theorem K3 {ns:List aD} {bs:List Int} {os:List (D aA)} {ps:List Pt} (h:ns.length=os.length) (h':bs.length=os.length) (hp:(eU (cf os,ps)).2.isNil=false):iV ns bs os ps=([],(eU (cf os,ps)).2):=by
 unfold iV;rw [if_neg (by rintro (e | e);exact e h;exact e h'),if_pos hp]
theorem xU {ns:List aD} {bs:List Int} {os:List (D aA)} {ps:List Pt} (h:ns.length=os.length) (h':bs.length=os.length) (hp:(eU (cf os,ps)).2.isNil=true):iV ns bs os ps=(c7 ns bs (eU (cf os,ps)).1 os.length, .nil):=by
 unfold iV;rw [if_neg (by rintro (e | e);exact e h;exact e h'),if_neg (by rw [hp];decide)]
theorem K4 (ns:List aD) (bs:List Int) (os:List (D aA)) (ps:List Pt):Told (iV ns bs os ps).2:=by
 unfold iV;split
 ·rfl
 ·split
  ·exact K0 _
  ·rfl
noncomputable def cu (rd:Rd) (root:aD):List (D bE) × Int:=
 if ¬ (bA rd root).2.2.2.2=0 then ([],(bA rd root).2.2.2.2)
 else ((iV (bA rd root).1 (bA rd root).2.2.1 (bA rd root).2.1 (bA rd root).2.2.2.1).1,eJ (iV (bA rd root).1 (bA rd root).2.2.1 (bA rd root).2.1 (bA rd root).2.2.2.1).2)
theorem jQ.put {rd:Rd} {root:aD} {ns:List aD} {os:List (D aA)} {bs:List Int} {ps:List Pt} (h:jQ rd root ns os bs ps):eU (cf os,ps)=(et (cf os) ps, .nil):=pT h.ND
theorem jQ.lay {rd:Rd} {root:aD} {ns:List aD} {os:List (D aA)} {bs:List Int} {ps:List Pt} (h:jQ rd root ns os bs ps):iV ns bs os ps=(c7 ns bs (et (cf os) ps) os.length, .nil):=by
 rw [xU h.sc.len.symm h.bl (by rw [h.put];rfl),h.put]
theorem nW {rd:Rd} {root:aD} (h:¬ (bA rd root).2.2.2.2=0):cu rd root=([],(bA rd root).2.2.2.2):=by unfold cu;rw [if_pos h]
theorem Fx {rd:Rd} {root:aD} {ns:List aD} {os:List (D aA)} {bs:List Int} {ps:List Pt} (e:bA rd root=(ns,os,bs,ps,0)) (h:jQ rd root ns os bs ps):cu rd root=(c7 ns bs (et (cf os) ps) os.length,0):=by
 unfold cu;rw [e,if_neg (by simp),h.lay];rfl
theorem mX {rd:Rd} (ok:fc rd) (root:aD):(∃f,0 < f/\bA rd root=([],[],[],[],f)/\cu rd root=([],f))\/
  (∃ns os bs ps,bA rd root=(ns,os,bs,ps,0)/\jQ rd root ns os bs ps/\cu rd root=(c7 ns bs (et (cf os) ps) os.length,0)):=by
 rcases nV ok root with ⟨f,hf,e⟩ | ⟨ns,os,bs,ps,e,h⟩
 ·exact .inl ⟨f,hf,e,by rw [nW (by rw [e];simp only;omega),e]⟩
 ·exact .inr ⟨ns,os,bs,ps,e,h,Fx e h⟩
theorem jQ.row {rd:Rd} {root:aD} {ns:List aD} {os:List (D aA)} {bs:List Int} {ps:List Pt} (h:jQ rd root ns os bs ps) {i:Nat} (hi:i < os.length):nth dL (et (cf os) ps) i=gQ (nth aA os i).2.1 i ps:=by
 have:=KD (w:=cf os) (l:=ps) (i:=i) (by rw [jK];exact hi) h.ND
 rw [h.put,lH hi] at this
 exact this
theorem jQ.IY {rd:Rd} {root:aD} {ns:List aD} {os:List (D aA)} {bs:List Int} {ps:List Pt} (h:jQ rd root ns os bs ps) {i:Nat} (hi:i < os.length):(nth dL (et (cf os) ps) i).length=(nth aA os i).2.1.length:=by
 rw [oE,lH hi]
end Go.Mrl

namespace Go.Mrl
open Go.Vg
def Oa (p:D bE) (a:Int):Prop:=(p.2.1:Int)<=a/\a < (p.2.1:Int) + (p.2.2.1.length:Int)
instance (p:D bE) (a:Int):Decidable (Oa p a):=inferInstanceAs (Decidable (_/\_))
def fV:List (D bE)->Int->Int × Bool
 | [],_=>(0,false)
 | p :: l,a=>if Oa p a then (nth (.int .i64) p.2.2.1 (a - p.2.1).toNat,true) else fV l a
def vE (l:List (D bE)):Prop:=∀i,i < l.length->(0:Int)<=(nth bE l i).2.1/\(nth bE l i).2.1<=(1000000:Int)/\(nth bE l i).2.2.1.length<=1000000
theorem vF {l:List (D bE)} {a:Int} {i:Nat} (h:i < l.length) (e:fV (l.drop i) a=fV l a) (h1:((nth bE l i).2.1:Int)<=a) (h2:a < ((nth bE l i).2.1:Int) + ((nth bE l i).2.2.1.length:Int)) :
  fV l a=(nth (.int .i64) (nth bE l i).2.2.1 (a - (nth bE l i).2.1).toNat,true):=by
 rw [<-e,dG h];exact if_pos ⟨h1,h2⟩
theorem Cs {l:List (D bE)} {a:Int} {i:Nat} (h:i < l.length) (e:fV (l.drop i) a=fV l a) (hn:¬ (a>=(nth bE l i).2.1/\a < (nth bE l i).2.1 + ((nth bE l i).2.2.1.length:Int))) :
  fV (l.drop (i + 1)) a=fV l a:=by
 rw [<-e,dG h];exact (if_neg hn).symm
theorem xV {l:List (D bE)} {a:Int} {i:Nat} (h:¬ i < l.length) (e:fV (l.drop i) a=fV l a):fV l a=(0,false):=by
 rw [<-e,List.drop_eq_nil_of_le (by omega)];rfl
theorem tc {rd:Rd} (ok:fc rd) {root:aD} (h:(aL rd root).2.2=0):(aL rd root).2.1.length<=6:=by
 have:=(ra ok h).le;have:=(ra ok h).len;omega
theorem xi {rd:Rd} (ok:fc rd) {root:aD} (h:(aL rd root).2.2=0):eC (aL rd root).2.1:=(ra ok h).K2 ok
theorem Mw {l:List (D aA)} (h:l.length<=1000/\∀i,i < l.length->(nth aA l i).2.1.length<=1000) :
  (cf l).length<=100000/\∀i,i < (cf l).length->(nth dL (cf l) i).length<=100000000:=by
 refine ⟨by rw [jK];omega,fun i hi => ?_⟩
 rw [jK] at hi
 rw [lH hi];have:=h.2 i hi;omega
theorem xj {rd:Rd} (ok:fc rd) {root:aD} {ns:List aD} {os:List (D aA)} (h:Scope rd root ns os):os.length<=1000/\∀i,i < os.length->(nth aA os i).2.1.length<=1000:=by
 refine ⟨by have:=h.le;have:=h.len;omega,fun i hi => ?_⟩
 exact Nat.le_trans (h.obj ok hi).No (by decide)
theorem Ct {rd:Rd} (ok:fc rd) {root:aD} (h:(bA rd root).2.2.2.2=0) :
  (bA rd root).2.1.length<=1000/\∀i,i < (bA rd root).2.1.length->(nth aA (bA rd root).2.1 i).2.1.length<=1000:=by
 rcases nV ok root with ⟨f,hf,e⟩ | ⟨ns,os,bs,ps,e,hr⟩
 ·rw [e] at h;simp at h;omega
 ·rw [e];exact xj ok hr.sc
theorem K5 {rd:Rd} {root:aD} (h:(bA rd root).2.2.2.2=0) :
  ((iV (bA rd root).1 (bA rd root).2.2.1 (bA rd root).2.1 (bA rd root).2.2.2.1).1,(iV (bA rd root).1 (bA rd root).2.2.1 (bA rd root).2.1 (bA rd root).2.2.2.1).2,()) =
   ((cu rd root).1,aY (cu rd root).2,()):=by
 unfold cu;rw [if_neg (not_not_intro h)]
 simp only [rb (K4 _ _ _ _)]
theorem zJ {f:Int} (h:(aY f).isNil=false):¬ f=0:=fun e=>by rw [bL.2 e] at h;cases h
theorem K6 (x:List (D aA) × List Int):aY (eJ (cH x).2)=(cH x).2:=rb (vq x)
theorem mY {rd:Rd} (ok:fc rd) (root:aD):vE (cu rd root).1:=by
 rcases mX ok root with ⟨f,hf,e,el⟩ | ⟨ns,os,bs,ps,e,hr,el⟩
 ·rw [el];intro i hi;simp at hi
 ·rw [el];intro i hi
  rw [ep] at hi
  rw [mW hi]
  have hb:=hr.bi i (by rw [hr.bl];exact hi)
  have hl:=hr.IY hi
  have hw:=(hr.sc.obj ok hi).No
  exact ⟨hb.1,Int.le_trans hb.2 (by decide),Nat.le_trans (Nat.le_of_eq hl) (Nat.le_trans hw (by decide))⟩
theorem jw {α:Type} {l:List α} {i:Nat} (h:¬ i < l.length):l.take i=l:=List.take_of_length_le (by omega)
theorem Cu {rd:Rd} {root:aD} (h:¬ (aL rd root).2.2=0):(([]:List (D bE)),([]:List Pt),(aL rd root).2.2,())=((cu rd root).1,(bA rd root).2.2.2.1,(cu rd root).2,()):=by
 have e:=nT h
 rw [nW (by rw [e];exact h),e]
theorem Cv {rd:Rd} {root:aD} (h:(aL rd root).2.2=0) (hn:eJ (bW (bK (aL rd root).2.1,[])).2 > 0) :
  (([]:List (D bE)),([]:List Pt),eJ (bW (bK (aL rd root).2.1,[])).2,())=((cu rd root).1,(bA rd root).2.2.2.1,(cu rd root).2,()):=by
 have h1:(bW (bK (aL rd root).2.1,[])).2.isNil=false:=by
  cases e:(bW (bK (aL rd root).2.1,[])).2 <;> first | rfl | (rw [e] at hn;exact absurd hn (by decide))
 have e:=nU h h1
 rw [nW (by rw [e];show ¬ eJ _=0;omega),e]
theorem GZ {rd:Rd} {root:aD} (h:(aL rd root).2.2=0) (h1:(bW (bK (aL rd root).2.1,[])).2.isNil=true)
  (hn:eJ (cH ((aL rd root).2.1,(bW (bK (aL rd root).2.1,[])).1)).2 > 0) :
  (([]:List (D bE)),([]:List Pt),eJ (cH ((aL rd root).2.1,(bW (bK (aL rd root).2.1,[])).1)).2,())=((cu rd root).1,(bA rd root).2.2.2.1,(cu rd root).2,()):=by
 have h2:(cH ((aL rd root).2.1,(bW (bK (aL rd root).2.1,[])).1)).2.isNil=false:=by
  cases e:(cH ((aL rd root).2.1,(bW (bK (aL rd root).2.1,[])).1)).2 <;> first | rfl | (rw [e] at hn;exact absurd hn (by decide))
 have e:=re h h1 h2
 rw [nW (by rw [e];show ¬ eJ _=0;omega),e]
theorem Cw {e:bB} (ht:Told e) (h:eJ e<=0):e.isNil=true:=by
 cases hb:e.isNil with
 | true=>rfl
 | false=>have:=vD ht hb;omega
theorem pY {rd:Rd} (ok:fc rd) {root:aD} (h:(aL rd root).2.2=0) (h1:eJ (bW (bK (aL rd root).2.1,[])).2<=0)
  (h2:eJ (cH ((aL rd root).2.1,(bW (bK (aL rd root).2.1,[])).1)).2<=0) :
  jQ rd root (aL rd root).1 (aL rd root).2.1 (bW (bK (aL rd root).2.1,[])).1 (cH ((aL rd root).2.1,(bW (bK (aL rd root).2.1,[])).1)).1/\
  bA rd root=((aL rd root).1,(aL rd root).2.1,(bW (bK (aL rd root).2.1,[])).1,(cH ((aL rd root).2.1,(bW (bK (aL rd root).2.1,[])).1)).1,0):=by
 have e:=pj h (Cw (mV _) h1) (Cw (vq _) h2)
 rcases nV ok root with ⟨f,hf,e'⟩ | ⟨ns,os,bs,ps,e',hr⟩
 ·rw [e'] at e;have:=congrArg (fun x:Rk=>x.2.2.2.2) e;simp only at this;omega
 ·rw [e'] at e
  have a:=congrArg (fun x:Rk=>x.1) e
  have b:=congrArg (fun x:Rk=>x.2.1) e
  have c:=congrArg (fun x:Rk=>x.2.2.1) e
  have d:=congrArg (fun x:Rk=>x.2.2.2.1) e
  simp only at a b c d
  rw [a,b,c,d] at hr e'
  exact ⟨hr,e'⟩
theorem D3 {rd:Rd} {root:aD} {ns:List aD} {os:List (D aA)} {bs:List Int} {ps:List Pt} (h:jQ rd root ns os bs ps) (e:bA rd root=(ns,os,bs,ps,0)) :
  (c7 ns bs (et (cf os) ps) os.length,ps,(0:Int),())=((cu rd root).1,(bA rd root).2.2.2.1,(cu rd root).2,()):=by
 rw [Fx e h,e]
theorem G0 {rd:Rd} {root:aD} {ns:List aD} {os:List (D aA)} {bs:List Int} {ps:List Pt} (h:jQ rd root ns os bs ps) {i:Nat} (hi:i < os.length) {r:List Int} (hr:r=gQ (nth aA os i).2.1 i ps) :
  c7 ns bs (et (cf os) ps) i++[(nth .str ns i,nth (.int .i64) bs i,r,())]=c7 ns bs (et (cf os) ps) (i + 1):=by
 rw [pk,h.row hi,hr]
theorem K7 {rd:Rd} {root:aD} {ns:List aD} {os:List (D aA)} {bs:List Int} {ps:List Pt} (h:jQ rd root ns os bs ps) {i k:Nat} (hk:k < ps.length) (e:(nth aN ps k).1=(i:Int)) (hi:i < os.length) :
  (0:Int)<=(nth aN ps k).2.1/\(nth aN ps k).2.1 < ((gQ (nth aA os i).2.1 i (ps.take k)).length:Int):=by
 have hp:=h.ND k hk
 rw [uw]
 refine ⟨hp.2.2.1,?_⟩
 have:=hp.2.2.2
 rw [e,Int.toNat_natCast,lH hi] at this
 exact this
end Go.Mrl

namespace Go.Mrl
open Go.Vg
structure gS (L:List aD) (i:Nat) (o:D aA):Prop where
 le:i<=L.length
 st:run gk (cd aA) (L.take i)=some o
 l1:o.1.length<=i
 l2:o.2.1.length<=i
 l3:o.2.2.1.length<=i
 l4:o.2.2.2.1.length<=i
theorem gS.zero (L:List aD):gS L 0 (cd aA):=⟨Nat.zero_le _,rfl,Nat.le_refl _,Nat.le_refl _,Nat.le_refl _,Nat.le_refl _⟩
structure kM (o p:D aA):Prop where
 l1:p.1.length<=o.1.length + 1
 l2:p.2.1.length<=o.2.1.length + 1
 l3:p.2.2.1.length<=o.2.2.1.length + 1
 l4:p.2.2.2.1.length<=o.2.2.2.1.length + 1
theorem tR {α:Type} (l:List α) (x:α):(l++[x]).length<=l.length + 1:=by simp
theorem kM.nQ (o:D aA) (s:aD):kM o (hE o s):=⟨tR _ _,Nat.le_succ _,Nat.le_succ _,Nat.le_succ _⟩
theorem kM.word (o:D aA) (n:Int):kM o (hH o n):=⟨Nat.le_succ _,tR _ _,Nat.le_succ _,Nat.le_succ _⟩
theorem kM.sym (o:D aA) (y:D aI):kM o (lB o y):=⟨Nat.le_succ _,Nat.le_succ _,tR _ _,Nat.le_succ _⟩
theorem kM.tie (o:D aA) (t:D aJ):kM o (fO o t):=⟨Nat.le_succ _,Nat.le_succ _,Nat.le_succ _,tR _ _⟩
theorem gS.next {L:List aD} {i:Nat} {o p:D aA} (h:gS L i o) (hi:i < L.length) (hl:gk o (nth .str L i)=some p) (hm:kM o p):gS L (i + 1) p:=by
 have a1:=h.l1;have a2:=h.l2;have a3:=h.l3;have a4:=h.l4
 have b1:=hm.l1;have b2:=hm.l2;have b3:=hm.l3;have b4:=hm.l4
 refine ⟨hi,?_,by omega,by omega,by omega,by omega⟩
 rw [gR (t:=.str) hi,vz,h.st,Option.bind_some];exact hl
theorem gS.fail {L:List aD} {i:Nat} {o:D aA} (h:gS L i o) (hi:i < L.length) (hl:gk o (nth .str L i)=none):run gk (cd aA) L=none:=by
 have:=pX (m:=L.drop i) h.st
 rw [List.take_append_drop,dG (t:=.str) hi] at this
 rw [this];simp only [run];rw [hl]
theorem gS.done {L:List aD} {i:Nat} {o:D aA} (h:gS L i o) (hi:¬ i < L.length):run gk (cd aA) L=some o:=by
 have:=h.st
 rwa [List.take_of_length_le (by omega)] at this
theorem IZ {w:List aD} (h:w.length=2):w = [nth .str w 0,nth .str w 1]:=by
 match w,h with
 | [a,b],_=>rfl
theorem Cy {w:List aD} (h:w.length=3):w = [nth .str w 0,nth .str w 1,nth .str w 2]:=by
 match w,h with
 | [a,b,c],_=>rfl
theorem Fy {w:List aD} (h:w.length=4):w = [nth .str w 0,nth .str w 1,nth .str w 2,nth .str w 3]:=by
 match w,h with
 | [a,b,c,d],_=>rfl
def cN (w:List aD) (k:Nat):List Int:=(List.range (k - 1)).map fun i=>iU (nth .str w (i + 1))
theorem tf (w:List aD) (k:Nat):(cN w k).length=k - 1:=by simp [cN]
theorem xk {w:List aD} {k:Nat} (h:1<=k):cN w (k + 1)=cN w k++[iU (nth .str w k)]:=by
 obtain ⟨m,rfl⟩:∃m,k=m + 1:=⟨k - 1,by omega⟩
 simp [cN,List.range_succ]
theorem ia {w:List aD} {k i:Nat} (h:i + 1 < k):(nth (.int .i64) (cN w k) i:Int)=iU (nth .str w (i + 1)):=by
 apply dx;simp [cN,show i < k - 1 by omega]
theorem Mx {s:aD} (h:mJ s=true):pf s=iU s:=by
 unfold mJ lE at h;unfold pf lE iU
 cases hn:iT s with
 | none=>rw [hn] at h;cases h
 | some n=>rfl
theorem K8 {s:aD} (h:mJ s=false):(-1099511627776:Int)=iU s:=by
 unfold mJ lE at h;unfold iU
 cases hn:iT s with
 | none=>rfl
 | some n=>rw [hn] at h;cases h
theorem Cz {w:List aD} {k:Nat} (h:1<=k) (hn:mJ (nth .str w k)=true):cN w k++[pf (nth .str w k)]=cN w (k + 1):=by rw [xk h,Mx hn]
theorem zK {w:List aD} {k:Nat} (h:1<=k) (hn:mJ (nth .str w k)=false):cN w k++[(-1099511627776:Int)]=cN w (k + 1):=by rw [xk h,<-K8 hn]
section
variable {o:D aA} {b:Bool} {w:List aD} {k:Nat}
theorem D4 (h:w.length=2/\nth .str w 0=dK):eD o b w=some (hE o (nth .str w 1)):=by
 rw [IZ h.1];show (if nth .str w 0=dK then _ else _)=_;rw [if_pos h.2];rfl
theorem D5 (h0:¬ (w.length=2/\nth .str w 0=dK)) (h:w.length=2/\nth .str w 0=dC) (hk:1 < k):eD o b w=some (hH o (nth (.int .i64) (cN w k) 0)):=by
 rw [ia (by omega),IZ h.1]
 show (if nth .str w 0=dK then _ else if nth .str w 0=dC then _ else _)=_
 rw [if_neg fun e=>h0 ⟨h.1,e⟩,if_pos h.2];rfl
theorem G1 (h:w.length=3/\nth .str w 0=cW) (hk:2 < k):eD o b w=some (lB o (nth .str w 1,nth (.int .i64) (cN w k) 1,b,())):=by
 rw [ia (by omega),Cy h.1]
 show (if nth .str w 0=cW then _ else _)=_
 rw [if_pos h.2];rfl
theorem D6 (h0:¬ (w.length=3/\nth .str w 0=cW)) (h:w.length=3/\nth .str w 0=fh) (hk:2 < k):eD o b w=some (fO o (nth (.int .i64) (cN w k) 0,1,nth (.int .i64) (cN w k) 1,[],b,())):=by
 rw [ia (by omega),ia (by omega),Cy h.1]
 show (if nth .str w 0=cW then _ else if nth .str w 0=fh then _ else _)=_
 rw [if_neg fun e=>h0 ⟨h.1,e⟩,if_pos h.2];rfl
theorem CA (h:w.length=4/\nth .str w 0=dV) (hk:2 < k):eD o b w=some (fO o (nth (.int .i64) (cN w k) 0,2,nth (.int .i64) (cN w k) 1,nth .str w 3,b,())):=by
 rw [ia (by omega),ia (by omega),Fy h.1]
 show (if nth .str w 0=dV then _ else _)=_
 rw [if_pos h.2];rfl
theorem D7 (h0:¬ (w.length=4/\nth .str w 0=dV)) (h:w.length=4/\nth .str w 0=eG) (hk:2 < k):eD o b w=some (fO o (nth (.int .i64) (cN w k) 0,3,nth (.int .i64) (cN w k) 1,nth .str w 3,b,())):=by
 rw [ia (by omega),ia (by omega),Fy h.1]
 show (if nth .str w 0=dV then _ else if nth .str w 0=eG then _ else _)=_
 rw [if_neg fun e=>h0 ⟨h.1,e⟩,if_pos h.2];rfl
theorem D8 (h0:¬ (w.length=2/\nth .str w 0=dK)) (h1:¬ (w.length=2/\nth .str w 0=dC)) (h2:¬ (w.length=3/\nth .str w 0=cW)) (h3:¬ (w.length=3/\nth .str w 0=fh))
  (h4:¬ (w.length=4/\nth .str w 0=dV)) (h5:¬ (w.length=4/\nth .str w 0=eG)):eD o b w=none:=by
 match w with
 | []=>rfl
 | [_]=>rfl
 | [a,x]=>show (if a=dK then _ else if a=dC then _ else _)=_;rw [if_neg (show ¬ a=dK from fun e=>h0 ⟨rfl,e⟩),if_neg (show ¬ a=dC from fun e=>h1 ⟨rfl,e⟩)]
 | [a,x,y]=>show (if a=cW then _ else if a=fh then _ else _)=_;rw [if_neg (show ¬ a=cW from fun e=>h2 ⟨rfl,e⟩),if_neg (show ¬ a=fh from fun e=>h3 ⟨rfl,e⟩)]
 | [a,x,y,z]=>show (if a=dV then _ else if a=eG then _ else _)=_;rw [if_neg (show ¬ a=dV from fun e=>h4 ⟨rfl,e⟩),if_neg (show ¬ a=eG from fun e=>h5 ⟨rfl,e⟩)]
 | _ :: _ :: _ :: _ :: _ :: _=>rfl
end
theorem Fz {s:aD} {x:List aD} (hx:x=parts 32 s):tJ x=(nth .str x 0 == jH):=by
 have:=nM 32 s
 rw [<-hx] at this
 unfold tJ
 match x,this with
 | a :: r,_=>rw [Bool.eq_iff_iff];simp [nth]
theorem I0 {o:D aA} {s:aD} {x w:List aD} (hx:x=parts 32 s) (h:nth .str x 0=jH) (hw:w=x.drop 1):gk o s=eD o (nth .str x 0 == jH) w:=by
 unfold gk wZ;rw [<-hx,Fz hx,h,hw];rfl
theorem K9 {o:D aA} {s:aD} {x:List aD} (hx:x=parts 32 s) (h:¬ nth .str x 0=jH):gk o s=eD o (nth .str x 0 == jH) x:=by
 have:(nth .str x 0 == jH)=false:=by simpa using h
 unfold gk wZ;rw [<-hx,Fz hx,this];rfl
theorem jT {w:List aD} {n:Nat} {m:Int} {a:aD} (h:(w.length:Int)=m) (hm:m=(n:Int)):(nth .str w 0 == a)=true ↔ (w.length=n/\nth .str w 0=a):=by
 simp;omega
theorem jF {w:List aD} {n:Nat} {m:Int} {P:Prop} (h:¬ (w.length:Int)=m) (hm:m=(n:Int)):false=true ↔ (w.length=n/\P):=by
 constructor
 ·intro h;cases h
 ·rintro ⟨h1,_⟩;omega
theorem eT {k n:Nat} (h:(k:Int) < (n:Int)):(decide ((k:Int) < 3))=true ↔ ((k:Int) < (n:Int)/\(k:Int) < 3):=by
 rw [decide_eq_true_eq];omega
theorem eF {k n:Nat} (h:(n:Int)<=(k:Int)):false=true ↔ ((k:Int) < (n:Int)/\(k:Int) < 3):=by
 constructor
 ·intro h;cases h
 ·intro h;omega
theorem rf {k n:Nat} (h:1<=k/\k<=3/\(k=1\/k<=n)) (h':¬ ((k:Int) < (n:Int)/\(k:Int) < 3)):(n=2->k=2)/\(3<=n->k=3):=by omega
theorem NF {c:UInt8} {s:aD} {w:List aD} (h:w=parts c s):0 < w.length:=by rw [h];exact List.length_pos_iff.2 (nM c s)
theorem G2 {s:aD} {i:Nat} {o:D aA} (hl:¬ s.length > 1200) (h:gS (iw s) i o) (hi:i < (iw s).length) (hn:gk o (nth .str (iw s) i)=none):((cd aA,4):D aA × Int)=ck s:=
 (GL hl (h.fail hi hn)).symm
theorem tg {s:aD} {i:Nat} {o:D aA} (hl:¬ s.length > 1200) (h:gS (iw s) i o) (hi:¬ i < (iw s).length)
  (hb:bN o > 0\/(gK o).2 > 0\/¬ (gK o).1=s):((cd aA,4):D aA × Int)=ck s:=by
 refine (GM hl (h.done hi) fun hf ht => ?_).symm
 rcases hb with hb | hb | hb
 ·omega
 ·rw [qW rfl (by show (cT o).length<=1200;rw [ht];omega)] at hb;exact absurd hb (by simp)
 ·rw [qW rfl (by show (cT o).length<=1200;rw [ht];omega)] at hb;exact hb ht
theorem G3 {s:aD} {o:D aA} (hl:¬ s.length > 1200) (hf:bN o<=0) (hn:(gK o).2<=0) (ht:(gK o).1=s):((o,0):D aA × Int)=ck s:=by
 have hf0:bN o=0:=by have:=rG o;omega
 have hs:cT o=s:=by
  by_cases h:(cT o).length > 1200
  ·rw [wY rfl h] at hn;exact absurd hn (by decide)
  ·rw [qW rfl (by show (cT o).length<=1200;omega)] at ht;exact ht
 exact (tM hl hf0 hs).symm
theorem I1 {s:aD} (h:s.length > 1200):((cd aA,2):D aA × Int)=ck s:=(s3 h).symm
theorem G4 {s:aD} (h:¬ s.length > 1200) (hr:s4 s=false):((cd aA,4):D aA × Int)=ck s:=(IK h hr).symm
theorem CB {s:aD} (h:s.length<=1200):(iw s).length<=1201:=by
 have:=oN 10 s
 unfold iw pc;simp;omega
theorem G5 {s:aD} (h:s.length<=1200) (i:Nat):(nth .str (iw s) i).length<=1200:=by
 by_cases hi:i < (iw s).length
 ·have h1:=gr (t:=.str) hi
  have:=kL 10 s _ (List.dropLast_sublist _ |>.subset h1)
  omega
 ·unfold nth;rw [List.getD_eq_getElem?_getD,List.getElem?_eq_none (by omega)];exact Nat.zero_le _
end Go.Mrl

namespace Go.Mrl
open Go.Vg
def L4 (e:D fj):Prop:=e.2.1.length < 1\/e.2.1.length > 6\/e.2.2.1.length > 36
instance (e:D fj):Decidable (L4 e):=by unfold L4;infer_instance
end Go.Mrl

namespace Go.Mrl
open Go.Vg
end Go.Mrl

namespace Go.Mrl
open Go.Vg
theorem dX {rd:Rd} (ok:fc rd) (root:aD):0<=(aL rd root).2.2:=by
 rcases ph ok root with ⟨f,hf,e⟩ | ⟨ns,os,e,_⟩
 ·rw [e];exact Int.le_of_lt hf
 ·rw [e];exact Int.le_refl _
theorem bO.lF {x:ft} {r:RS} (h:bO x r):r.1.length<=6:=by
 rw [h.perm.length_eq,List.length_map];exact h.len
end Go.Mrl

namespace Go.Vg
open Go
theorem D9 {H:Type} {enc:TypeId × Value->H} {a:Assume} {C:Checked} {os:Os} {f:FuncId} {fn:Func} {s:ChangeSpec} {conds:List PathCond} {apart fresh handsOn again:Bool} {X:World->Array Value->Prop}
  (hX:∀(w w':World) (args:Array Value),w.heap=w'.heap->X w args->X w' args)
  (own:ownKnob C.prog.godebug=none) (started:os.Started) (noInit:C.prog.inits.idxOf? f=none) (hfn:C.prog.funcs[f]?=some fn)
  (witness:∃(w:World) (tape:Tape) (i:Input),w.os=os/\(w.forCall tape i).Shaped C.prog/\i.vars = []/\Input.okWide C.prog (w.forCall tape i) .any w.heap.size f i/\
   ((s.pre enc C.prog fn conds apart (w.forCall tape i).memory i.args/\X (w.forCall tape i).memory i.args)/\sizedMet enc C.prog fn (OpenSpec.ofChange s) apart (w.forCall tape i).memory i.args)/\a.holds C.prog (lone (Frame.enter C.prog f i.args .normal) [] (w.forCall tape i)))
  (contract:∀(W:World) (base:Nat) (args:Array Value) (ds gs:List (DataW H)) (before:List MemPlace),
   (∀(j:Nat) t v,fn.params[j]?=some t->args[j]?=some v->Value.okWide C.prog W .any base t v)->
   DataW.Whole enc C.prog fn.params.toList s.vars apart W args.toList ds gs before->
   X W args->W.ShapedOpen C.prog->
   Calls C.prog f args W fun e W'=>∃v,e = .returned v/\s.post enc C.prog fn apart fresh handsOn again W args v W') :
  ReturnsInHanded a C os f .any (fun w args=>(s.pre enc C.prog fn conds apart w args/\X w args)/\sizedMet enc C.prog fn (OpenSpec.ofChange s) apart w args) (s.post enc C.prog fn apart fresh handsOn again):=by
 refine returnsInHanded_of_calls own started noInit witness ?_
 intro w tape i _ hsh _ hok hpre hholds
 obtain ⟨_,_,_,fn',hfn',_,_,_,_,hval⟩:=hok
 have e:fn'=fn:=Option.some.inj (hfn'.symm.trans hfn)
 subst e
 obtain ⟨⟨⟨ds,gs,before,hw,hc⟩,hx⟩,hz⟩:=hpre
 have hw':=DataW.Whole.of_heap (w':=w.forCall tape i) (by rfl) hw
 refine (contract (w.forCall tape i) w.heap.size i.args ds gs before hval hw' (hX _ _ _ (by rfl) hx) hsh).mono fun e W' ⟨v,he,hp⟩ => ?_
 subst he
 exact ChangeSpec.post_blind hp
theorem CC {P:Program} {w:World} {g:Nat} {t:TypeId} {zero:Array Value} (h:w.ShapedOpen P) (hg:g < P.globals.size)
  (h0:((begin P (fun _ _=>0) default).world.heap[g]?).bind Obj.row?=some (zero,t)) (hz:zero.size=1)
  (hb:P.buildable t=true) (hc:P.cellTypes P.depth t=some [t]) (hu:P.underlying t=some (.int .i64)):∃m,w.cell? ⟨g,0,none⟩=some (.int .i64 m):=by
 obtain ⟨cs,hh,hs,hr⟩:=h.1 g zero t hg h0
 obtain ⟨ts,hts,_,hall⟩:=hr hb
 rw [hc] at hts
 cases hts
 have h1:0 < cs.size:=by omega
 obtain ⟨u,hu',hok⟩:=hall 0 cs[0] (by simp [h1])
 have:u=t:=by simpa using hu'.symm
 subst this
 have hcell:w.cell? ⟨g,0,none⟩=some cs[0]:=by simp [World.cell?,hh,h1]
 rw [hcell]
 unfold Cell.ok at hok
 rw [hu] at hok
 cases hv:cs[0] <;> rw [hv] at hok <;> first | exact hok.elim | (obtain ⟨rfl,_⟩:=hok;exact ⟨_,rfl⟩) | simp at hok
def L5:Option TypeDesc->Bool
 | some (.interface _)=>true
 | _=>false
theorem pZ {P:Program} {W:World} {name nm:String} {d:DataW Unit} {g:Nat} {t:TypeId}
  (hg:P.globalNamed name=some g) (hty:(P.globals[g]?).map (·.type)=some t) (hi:L5 (P.underlying t)=true)
  (h:Lib.VarReads P W name (.iface nm d)):∃ev,W.cell? ⟨g,0,none⟩=some ev/\(ev = .nilIface\/∃te pe,ev = .iface te pe):=by
 obtain ⟨g',t',cs,fuel,p,hg',ht',hvar,hd⟩:=h
 obtain rfl:=Option.some.inj (hg.symm.trans hg')
 obtain rfl:=Option.some.inj (hty.symm.trans ht')
 have hc:=World.var?_cell hg hvar 0
 obtain ⟨ms,hu⟩:∃ms,P.underlying t=some (.interface ms):=by
  unfold L5 at hi
  split at hi
  ·rename_i ms hm;exact ⟨ms,hm⟩
  ·cases hi
 cases fuel with
 | zero=>simp [DataW.trod] at hd
 | succ n=>
  cases hl:cs.toList with
  | nil=>rw [hl] at hd;simp [DataW.trod,hu] at hd
  | cons v r=>
   have h0:cs[0]?=some v:=by rw [<-Array.getElem?_toList,hl];rfl
   rw [h0] at hc
   refine ⟨v,hc,?_⟩
   rw [hl] at hd
   cases v <;> first | exact .inl rfl | exact .inr ⟨_,_,rfl⟩ | (simp [DataW.trod,hu] at hd)
theorem CE {P:Program} {W:World} {name:String} {k:IntKind} {zs:List Int} {g:Nat} {t e:TypeId} {n:Nat}
  (hg:P.globalNamed name=some g) (hty:(P.globals[g]?).map (·.type)=some t) (ht:P.underlying t=some (.array n e)) (he:P.underlying e=some (.int k)) (hce:P.cellsOf e=1) (hct:P.cellsOf t=n)
  (h:Lib.VarReads P W name (Lib.tabData k zs)):Lib.TabIs P W name k zs:=by
 obtain ⟨g',t',cs,fuel,p,hg',ht',hvar,hd⟩:=h
 obtain rfl:=Option.some.inj (hg.symm.trans hg')
 obtain rfl:=Option.some.inj (hty.symm.trans ht')
 unfold Lib.TabIs
 rw [hvar,<-Lib.cells_of_tab ht he hce hct hd]
end Go.Vg

namespace Go.Mrl
open Go.Vg
theorem I2 {rd:Rd} {root:aD} {ns:List aD} {os:List (D aA)} {bs:List Int} {ps:List Pt} {w:Ws} (h:aL rd root=(ns,os,0)) (hb:bW (bK os,[])=(bs, .nil)) (ha:cH (os,bs)=(ps, .nil))
  (hn:ns.length=os.length) (hl:bs.length=os.length) (hp:∀i,i < ps.length->oD (cf os) (nth aN ps i)) (hw:et (cf os) ps=w):cu rd root=(c7 ns bs w os.length,0):=by
 have e:bA rd root=(ns,os,bs,ps,0):=by
  unfold bA
  rw [h]
  simp only [hb,ha,bB.isNil]
  rfl
 unfold cu
 rw [e,if_neg (by simp)]
 have hq:eU (cf os,ps)=(w, .nil):=by rw [pT hp,hw]
 simp only
 rw [xU hn hl (by rw [hq];rfl),hq]
 rfl
def G6:aD:=[119,111,114,100,32,53,10,98,97,115,101,32,48,32,51,10]
abbrev NG:D aA:=([],[5],[],[(0,1,3,[],false,())],())
theorem N5:ck G6=(NG,0):=by
 have i5:Lib.itoa 5 = [53]:=by rw [nO (by decide) (by decide)];rfl
 have i0:Lib.itoa 0 = [48]:=by rw [nO (by decide) (by decide)];rfl
 have i3:Lib.itoa 3 = [51]:=by rw [nO (by decide) (by decide)];rfl
 refine tM (by decide) (by decide) ?_
 simp only [cT,cR,ew,fL,gh,oO,pa,db,List.length_singleton,List.length_nil,List.take_succ_cons,List.take_zero,List.flatMap_cons,List.flatMap_nil,i5,i0,i3]
 decide
theorem I3 {rd:Rd} {a t:aD} {n:Int} {o:D aA} (h:rd a=(t,n,0)) (ho:ck t=(o,0)) (hn:o.1 = []):aL rd a=([a],[o],0):=by
 have fa:dt rd a=0:=by unfold dt;rw [h];show (if (0:Int)=0 then (ck t).2 else 0)=0;rw [ho];rfl
 have oa:gW rd a=o:=by unfold gW;rw [h];show (ck t).1=o;rw [ho]
 have n0:nth .str [a] 0=a:=rfl
 unfold aL
 rw [lG,if_pos (by simp),n0,if_pos fa,oa,hn,Co,lG,if_neg (by simp)]
 rfl
def NH:ft:=(dO tH [97] G6).1
theorem Oi:bS NH [97]=(G6,1,0):=by decide
theorem My:cu (bS NH) [97]=([([97],0,[3],())],0):=by
 refine I2 (I3 Oi N5 rfl) (bs:=[0]) (ps:=[(0,0,3,())]) (w:=[[3]]) rfl ?_ rfl rfl ?_ rfl
 ·rw [iO rfl (by
   intro i hi
   obtain rfl:i=0:=by simp at hi;omega
   simp [nth])]
  have h1:dk [NG] [0] 0 (0,1,3,[],false,())=(3, .nil):=(nJ rfl).trans (ni (by decide) rfl (by decide))
  simp [gg,gl,fr,h1,bB.isNil]
 ·intro i hi
  obtain rfl:i=0:=by simp at hi;omega
  unfold oD;decide
def CF:ft:=((0 + 1,()),(eN cO [] [97] (G6,0 + 1,()) 0,kH cO [] [97] 0,()),())
theorem N6:NH=CF:=rfl
theorem rh:cu (bS CF) [97]=([([97],0,[3],())],0):=by rw [<-N6];exact My
theorem uI {rd:Rd} (ok:fc rd) (s:aD):0<=(cu rd s).2:=by
 rcases mX ok s with ⟨f,hf,_,e⟩ | ⟨ns,os,bs,ps,_,_,e⟩
 ·rw [e];exact Int.le_of_lt hf
 ·rw [e];exact Int.le_refl _
theorem uJ {rd:Rd} (ok:fc rd) {s:aD} (h:(cu rd s).2 > 0):bA rd s=([],[],[],[],(cu rd s).2)/\(cu rd s).1 = []:=by
 rcases mX ok s with ⟨f,hf,e1,e⟩ | ⟨ns,os,bs,ps,_,_,e⟩
 ·rw [e];exact ⟨e1,rfl⟩
 ·rw [e] at h;exact absurd h (by simp)
theorem iy {rd:Rd} (ok:fc rd) {s:aD} (h:(cu rd s).2<=0):∃ns os bs ps,bA rd s=(ns,os,bs,ps,0)/\jQ rd s ns os bs ps/\cu rd s=(c7 ns bs (et (cf os) ps) os.length,0):=by
 rcases mX ok s with ⟨f,hf,e1,e⟩ | h'
 ·rw [e] at h;exact absurd hf (Int.not_lt.2 h)
 ·exact h'
end Go.Mrl

