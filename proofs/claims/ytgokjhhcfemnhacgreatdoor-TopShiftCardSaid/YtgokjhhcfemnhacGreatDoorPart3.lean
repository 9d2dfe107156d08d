/- A part of the proof that the law TopShiftCard holds of the given program: facts that are used there. -/
import Derived.Test.YtgokjhhcfemnhacGreatDoorPart2
import Derived.Handed
import Derived.Clock
import Derived.Lib.LaidTab
import Derived.Lib.LaidU8
import Derived.Lay
set_option linter.unusedSimpArgs false
set_option linter.unusedVariables false
namespace Go.Mrl
open Go.Vg
theorem p3:∀(l p:List aG),dA p l=0->∀s∈l,aK s=0
 | [],_,_,s,h=>absurd h (by simp)
 | x :: r,p,h,s,hs=>by
  have hx:=dm x
  unfold dA at h
  split at h
  ·omega
  ·split at h
   ·cases h
   ·rcases List.mem_cons.1 hs with rfl | hs
    ·omega
    ·exact p3 r _ h s hs
theorem p4:∀(l:List Int),eB l=0->∀n∈l,dE n=true
 | [],_,s,h=>absurd h (by simp)
 | x :: r,h,s,hs=>by
  unfold eB at h
  split at h
  ·rename_i hx
   rcases List.mem_cons.1 hs with rfl | hs
   ·exact hx
   ·exact p4 r h s hs
  ·cases h
theorem rZ (n:Nat):∀(l p:List (D aF)),cM n p l=0->∀y∈l,aK y.1=0/\jg 0 (n - 1) y.2.1
 | [],_,_,s,h=>absurd h (by simp)
 | x :: r,p,h,s,hs=>by
  have hx:=dm x.1
  unfold cM at h
  split at h
  ·omega
  ·split at h
   ·cases h
   ·rename_i h2
    split at h
    ·cases h
    ·rcases List.mem_cons.1 hs with rfl | hs
     ·exact ⟨by omega,Int.not_lt.1 fun e=>h2 (.inl e),Int.le_sub_one_of_lt (Int.not_le.1 fun e=>h2 (.inr e))⟩
     ·exact rZ n r _ h s hs
theorem tV {n:Nat} {p:Option Int} {t:D aJ} (h:fY n p t=0) :
  jg 0 (n - 1) t.1/\dE t.2.2.1=true/\jg 1 3 t.2.1/\(t.2.1=1->t.2.2.2.1 = []/\t.2.2.2.2.1=false)/\(t.2.1≠1->aK t.2.2.2.1=0):=by
 unfold fY at h
 split at h
 ·cases h
 ·rename_i h1
  split at h
  ·cases h
  ·rename_i h2
   refine ⟨⟨Int.not_lt.1 fun e=>h1 (.inl e),Int.le_sub_one_of_lt (Int.not_le.1 fun e=>h1 (.inr (.inl e)))⟩,?_,⟨Int.not_lt.1 fun e=>h2 (.inl e),Int.not_lt.1 fun e=>h2 (.inr (.inl e))⟩,?_,?_⟩
   ·cases hw:dE t.2.2.1 with
    | true=>rfl
    | false=>exact absurd (.inr (.inr hw)) h1
   ·intro e
    rw [if_pos e] at h
    split at h
    ·cases h
    ·rename_i h3
     refine ⟨Classical.byContradiction fun e=>h3 (.inl e),?_⟩
     cases hb:t.2.2.2.2.1 with
     | false=>rfl
     | true=>exact absurd (.inr hb) h3
   ·intro e
    rw [if_neg e] at h
    exact h
theorem nB (n:Nat):∀(l:List (D aJ)) (p:Option Int),eC n p l=0->∀t∈l,∃p,fY n p t=0
 | [],_,_,s,h=>absurd h (by simp)
 | x :: r,p,h,s,hs=>by
  unfold eC at h
  split at h
  ·rename_i h0;exact absurd h h0
  ·rename_i h0
   rcases List.mem_cons.1 hs with rfl | hs
   ·exact ⟨p,Classical.byContradiction h0⟩
   ·exact nB n r _ h s hs
theorem AM {s:aG} (h:aK s=0):Nm s:=by
 unfold aK at h
 split at h
 ·cases h
 ·rename_i hl
  split at h
  ·cases h
  ·rename_i hb
   refine ⟨by rintro rfl;simp at hl,by omega,fun c hc => ?_⟩
   obtain ⟨i,hi,rfl⟩:=List.getElem_of_mem hc
   have hn:dh i (dM s i)=false:=by
    unfold mA at hb
    rw [Bool.not_eq_true,List.any_eq_false] at hb
    have:=hb i (by simpa using hi)
    simpa using this
   have he:dM s i=s[i]:=by unfold dM;simp [hi]
   rw [he] at hn
   constructor
   ·intro e;rw [e] at hn;unfold dh small other at hn;simp at hn
   ·intro e;rw [e] at hn;unfold dh small other at hn;simp at hn
theorem three {x:Int} (h:1<=x) (h':x<=3):x=1\/x=2\/x=3:=by omega
theorem gf {o:D aA} (h:bk o=0):eM o:=by
 unfold bk at h
 split at h
 ·cases h
 ·rename_i hm
  split at h
  ·rename_i h1;exact absurd h h1
  ·rename_i h1
   split at h
   ·rename_i h2;exact absurd h h2
   ·rename_i h2
    split at h
    ·rename_i h3;exact absurd h h3
    ·rename_i h3
     have h1:=Classical.byContradiction h1
     have h2:=Classical.byContradiction h2
     have h3:=Classical.byContradiction h3
     unfold fq at hm
     have hw:o.2.1.length<=40:=Nat.not_lt.1 fun e=>hm (.inr (.inr (.inl e)))
     refine ⟨Nat.not_lt.1 fun e=>hm (.inl e),Nat.not_lt.1 fun e=>hm (.inr (.inl e)),hw,Nat.not_lt.1 fun e=>hm (.inr (.inr (.inr (.inl e)))),Nat.not_lt.1 fun e=>hm (.inr (.inr (.inr (.inr e)))),
      fun s hs=>AM (p3 _ _ h1 s hs),fun n hn => ?_,fun y hy => ?_,fun t ht => ?_⟩
     ·have:=p4 _ h2 n hn
      unfold dE at this
      simp only [Bool.and_eq_true,decide_eq_true_eq] at this
      exact this
     ·obtain ⟨a,b,c⟩:=rZ _ _ _ h3 y hy
      exact ⟨AM a,b,Int.le_trans c (by omega)⟩
     ·obtain ⟨p,hp⟩:=nB _ _ _ h t ht
      obtain ⟨⟨a,b⟩,c,⟨d,e⟩,f,g⟩:=tV hp
      unfold dE at c
      simp only [Bool.and_eq_true,decide_eq_true_eq] at c
      exact ⟨⟨a,Int.le_trans b (by omega)⟩,c,three d e,f,fun e=>AM (g e)⟩
theorem eE {a b n:Int} (h:jg a b n) (ha : -999999999999999999<=a) (hb:b<=999999999999999999):(Lib.itoa n).length<=19:=by
 obtain ⟨h0,h1⟩:=h
 unfold Lib.itoa
 split
 ·rw [List.length_cons]
  have:=ko 17 n.natAbs (by omega)
  omega
 ·have:=ko 17 n.toNat (by omega)
  omega
theorem lO (b:Bool):(cS b).length<=5:=by cases b <;> decide
theorem Cr {s:aG} (h:Nm s):(nA s).length<=64:=by have:=h.2.1;simp [nA];omega
theorem Cs {n:Int} (h:jg (-2147483648) 2147483647 n):(lN n).length<=64:=by have:=eE h (by decide) (by decide);simp [lN];omega
theorem D7 {y:D aF} (h:Nm y.1/\jg 0 39 y.2.1):(qI y).length<=64:=by
 have h1:=eE h.2 (by decide) (by decide)
 have h2:=lO y.2.2.1
 have h3:=h.1.2.1
 simp [qI];omega
theorem D8 {t:D aJ} (h:rY t):(mb t).length<=64:=by
 have h1:=eE h.a (by decide) (by decide)
 have h4:=eE h.w (by decide) (by decide)
 have h2:=lO t.2.2.2.2.1
 unfold mb
 split
 ·simp;omega
 ·rename_i hk
  have h3:=(h.nm hk).2.1
  split
  ·simp;omega
  ·simp;omega
theorem ld {α:Type} {f:α->aG}:∀{l:List α},(∀x∈l,(f x).length<=64)->(l.flatMap f).length<=64 * l.length
 | [],_=>by simp
 | x :: r,h=>by
  have h1:=h x (by simp)
  have h2:=ld (f:=f) (l:=r) fun y hy=>h y (List.mem_cons_of_mem _ hy)
  rw [List.flatMap_cons,List.length_append,List.length_cons];omega
theorem eM.Gn {o:D aA} (h:eM o) (i:Nat):(iy o i).length<=1000:=by
 have:=ld (f:=nA) (l:=o.1.take i) fun s hs=>Cr (h.uZ s (List.mem_of_mem_take hs))
 have h2:=h.n4
 unfold iy;simp only [List.length_take] at this;omega
theorem eM.Gp {o:D aA} (h:eM o) (i:Nat):(ga o i).length<=4000:=by
 have h0:=h.Gn o.1.length
 have:=ld (f:=lN) (l:=o.2.1.take i) fun s hs=>Cs (h.words s (List.mem_of_mem_take hs))
 have h2:=h.GQ
 unfold ga;rw [List.length_append];simp only [List.length_take] at this;omega
theorem eM.Gq {o:D aA} (h:eM o) (i:Nat):(gb o i).length<=5000:=by
 have h0:=h.Gp o.2.1.length
 have:=ld (f:=qI) (l:=o.2.2.1.take i) fun s hs=>D7 (h.syms s (List.mem_of_mem_take hs))
 have h2:=h.s8
 unfold gb;rw [List.length_append];simp only [List.length_take] at this;omega
theorem eM.GX {o:D aA} (h:eM o) (i:Nat):(dr o i).length<=6000:=by
 have h0:=h.Gq o.2.2.1.length
 have:=ld (f:=mb) (l:=o.2.2.2.1.take i) fun s hs=>D8 (h.AL s (List.mem_of_mem_take hs))
 have h2:=h.t6
 unfold dr;rw [List.length_append];simp only [List.length_take] at this;omega
theorem eM.oY {o:D aA} (h:eM o) {i:Nat} (hi:i < o.1.length):Nm (nth .str o.1 i):=h.uZ _ (en (t:=.str) hi)
theorem eM.word {o:D aA} (h:eM o) {i:Nat} (hi:i < o.2.1.length):jg (-2147483648) 2147483647 (nth (.int .i64) o.2.1 i):=h.words _ (en (t:=.int .i64) hi)
theorem eM.sym {o:D aA} (h:eM o) {i:Nat} (hi:i < o.2.2.1.length):Nm (nth aF o.2.2.1 i).1/\jg 0 39 (nth aF o.2.2.1 i).2.1:=h.syms _ (en (t:=aF) hi)
theorem eM.tie {o:D aA} (h:eM o) {i:Nat} (hi:i < o.2.2.2.1.length):rY (nth aJ o.2.2.2.1 i):=h.AL _ (en (t:=aJ) hi)
theorem x5 (a b:aG):bD a++bD b=bD (a++b):=by simp [bD]
theorem tW {o:D aA} (h:eM o) {i:Nat} (hi:i < o.1.length):(nth .str o.1 i).length<=8/\(iy o i).length<=1000:=⟨(h.oY hi).2.1,h.Gn i⟩
theorem tX {o:D aA} (h:eM o) {i:Nat} (hi:i < o.2.1.length):(Lib.itoa (nth (.int .i64) o.2.1 i)).length<=19/\(ga o i).length<=4000:=
 ⟨eE (h.word hi) (by decide) (by decide),h.Gp i⟩
theorem wD {o:D aA} (h:eM o) {i:Nat} (hi:i < o.2.2.1.length) :
  (nth aF o.2.2.1 i).1.length<=8/\(Lib.itoa (nth aF o.2.2.1 i).2.1).length<=19/\(cS (nth aF o.2.2.1 i).2.2.1).length<=5/\(gb o i).length<=5000:=
 ⟨(h.sym hi).1.2.1,eE (h.sym hi).2 (by decide) (by decide),lO _,h.Gq i⟩
theorem wE {o:D aA} (h:eM o) {i:Nat} (hi:i < o.2.2.2.1.length) :
  (nth aJ o.2.2.2.1 i).2.2.2.1.length<=8/\(Lib.itoa (nth aJ o.2.2.2.1 i).1).length<=19/\(Lib.itoa (nth aJ o.2.2.2.1 i).2.2.1).length<=19/\(cS (nth aJ o.2.2.2.1 i).2.2.2.2.1).length<=5/\(dr o i).length<=6000:=by
 have ht:=h.tie hi
 refine ⟨?_,eE ht.a (by decide) (by decide),eE ht.w (by decide) (by decide),lO _,h.GX i⟩
 by_cases hk:(nth aJ o.2.2.2.1 i).2.1=1
 ·rw [(ht.base hk).1];decide
 ·exact (ht.nm hk).2.1
theorem jC {p p' q:aG} {a b:Int} (h:p'=p++q):(((bD p++bD q,a,b,()):D eG))=((bD p',a,b,()):D eG):=by rw [h,x5]
theorem qJ {p p':aG} {a b:Int} (h:p=p'):((bD p,a,b,()):D eG)=((bD p',a,b,()):D eG):=by rw [h]
theorem AN {o:D aA} {i:Nat} (h:i < o.2.2.2.1.length) (hk:(nth aJ o.2.2.2.1 i).2.1=1) :
  dr o (i + 1)=dr o i++([98,97,115,101,32]++Lib.itoa (nth aJ o.2.2.2.1 i).1++[32]++Lib.itoa (nth aJ o.2.2.2.1 i).2.2.1++[10]):=by
 rw [oX h];unfold mb;rw [if_pos hk]
theorem AO {o:D aA} {i:Nat} (h:i < o.2.2.2.1.length) (hk:¬ (nth aJ o.2.2.2.1 i).2.1=1) (hk2:(nth aJ o.2.2.2.1 i).2.1=2) :
  dr o (i + 1)=dr o i++(cS (nth aJ o.2.2.2.1 i).2.2.2.2.1++[119,104,111,108,101,32]++Lib.itoa (nth aJ o.2.2.2.1 i).1++[32]++Lib.itoa (nth aJ o.2.2.2.1 i).2.2.1++[32]++(nth aJ o.2.2.2.1 i).2.2.2.1++[10]):=by
 rw [oX h];unfold mb;rw [if_neg hk,if_pos hk2]
theorem AP {o:D aA} {i:Nat} (h:i < o.2.2.2.1.length) (hk:¬ (nth aJ o.2.2.2.1 i).2.1=1) (hk2:¬ (nth aJ o.2.2.2.1 i).2.1=2) :
  dr o (i + 1)=dr o i++(cS (nth aJ o.2.2.2.1 i).2.2.2.2.1++[110,101,97,114,32]++Lib.itoa (nth aJ o.2.2.2.1 i).1++[32]++Lib.itoa (nth aJ o.2.2.2.1 i).2.2.1++[32]++(nth aJ o.2.2.2.1 i).2.2.2.1++[10]):=by
 rw [oX h];unfold mb;rw [if_neg hk,if_neg hk2]
theorem tY {o:D aA} (h:bk o≠0):eg o=([],aY (bk o)):=by unfold eg;rw [if_pos h]
theorem r4 {o:D aA} (h:bk o=0) {i:Nat} (hi:i=o.2.2.2.1.length) (hl:(dr o i).length > 1200):eg o=([], .no 2):=by
 unfold eg;rw [if_neg (by rw [h];decide),if_pos (by unfold cT;rw [<-hi];exact hl)]
theorem nC {o:D aA} (h:bk o=0) {i:Nat} (hi:i=o.2.2.2.1.length) (hl:(dr o i).length<=1200):eg o=(dr o i, .nil):=by
 unfold eg;rw [if_neg (by rw [h];decide),if_neg (by unfold cT;rw [<-hi];omega)];unfold cT;rw [<-hi]
end Go.Mrl

namespace Go.Mrl
open Go.Vg
@[reducible] def bO:aG:=[119,101,97,107,32]
@[reducible] def eh:aG:=[110,101,101,100]
@[reducible] def dQ:aG:=[119,111,114,100]
@[reducible] def dt:aG:=[115,121,109,98,111,108]
@[reducible] def fK:aG:=[98,97,115,101]
@[reducible] def eW:aG:=[119,104,111,108,101]
@[reducible] def eR:aG:=[110,101,97,114]
def jD (o:D aA) (s:aG):D aA:=(o.1++[s],o.2)
def jE (o:D aA) (n:Int):D aA:=(o.1,o.2.1++[n],o.2.2)
def mH (o:D aA) (y:D aF):D aA:=(o.1,o.2.1,o.2.2.1++[y],o.2.2.2)
def jh (o:D aA) (t:D aJ):D aA:=(o.1,o.2.1,o.2.2.1,o.2.2.2.1++[t],())
def qK (x y:aG) (k:Int->Int->D aA):Option (D aA):=
 match cu x,cu y with
 | some m,some n=>some (k m n)
 | _,_=>none
def gg (o:D aA) (b:Bool):List aG->Option (D aA)
 | [a,x]=>if a=eh then some (jD o x) else if a=dQ then (cu x).map (jE o) else none
 | [a,x,y]=>if a=dt then (cu y).map fun n=>mH o (x,n,b,()) else if a=fK then qK x y fun m n=>jh o (m,1,n,[],false,()) else none
 | [a,x,y,z]=>if a=eW\/a=eR then qK x y fun m n=>jh o (m,if a=eR then 3 else 2,n,z,b,()) else none
 | _=>none
def ji (o:D aA) (s:aG):Option (D aA):=gg o (Lib.hasPrefix s bO) (parts 32 (Lib.trimPrefix s bO))
def run (f:D aA->aG->Option (D aA)):D aA->List aG->Option (D aA)
 | o,[]=>some o
 | o,s :: r=>match f o s with
  | some p=>run f p r
  | none=>none
theorem wF {f:D aA->aG->Option (D aA)}:∀{l:List aG} {o:D aA} {s:aG},run f o (l++[s])=(run f o l).bind fun p=>f p s
 | [],o,s=>by simp only [List.nil_append,run,Option.bind_some];cases f o s <;> rfl
 | x :: r,o,s=>by
  simp only [List.cons_append,run]
  cases f o x with
  | none=>rfl
  | some p=>exact wF
theorem pE {f:D aA->aG->Option (D aA)}:∀{l m:List aG} {o p:D aA},run f o l=some p->run f o (l++m)=run f p m
 | [],m,o,p,h=>by simp only [run,Option.some.injEq] at h;rw [h];rfl
 | x :: r,m,o,p,h=>by
  simp only [run] at h
  simp only [List.cons_append,run]
  cases hx:f o x with
  | none=>rw [hx] at h;cases h
  | some q=>rw [hx] at h;exact pE h
def jj (s:aG):aG:=[110,101,101,100,32]++s
def jk (n:Int):aG:=[119,111,114,100,32]++Lib.itoa n
def qL (y:D aF):aG:=cS y.2.2.1++([115,121,109,98,111,108,32]++(y.1++32 :: Lib.itoa y.2.1))
def oZ (t:D aJ):aG:=
 if t.2.1=1 then [98,97,115,101,32]++(Lib.itoa t.1++32 :: Lib.itoa t.2.2.1)
 else if t.2.1=2 then cS t.2.2.2.2.1++([119,104,111,108,101,32]++(Lib.itoa t.1++32 :: (Lib.itoa t.2.2.1++32 :: t.2.2.2.1)))
 else cS t.2.2.2.2.1++([110,101,97,114,32]++(Lib.itoa t.1++32 :: (Lib.itoa t.2.2.1++32 :: t.2.2.2.1)))
def kg (o:D aA):List aG:=o.1.map jj++(o.2.1.map jk++(o.2.2.1.map qL++o.2.2.2.1.map oZ))
theorem lf {α:Type} {f g:α->aG} (h:∀x,f x=g x++[10]):∀l:List α,l.flatMap f=kn 10 (l.map g)
 | []=>rfl
 | x :: r=>by rw [List.flatMap_cons,lf h r,List.map_cons,tO,h];simp
theorem qM (c:UInt8) (l m:List aG):kn c (l++m)=kn c l++kn c m:=by simp [kn]
theorem x6 (o:D aA):cT o=kn 10 (kg o):=by
 unfold cT dr gb ga iy kg
 rw [List.take_length,List.take_length,List.take_length,List.take_length,qM,qM,qM,
  lf (g:=jj) (fun s=>by simp [nA,jj]) o.1,lf (g:=jk) (fun s=>by simp [lN,jk]) o.2.1,
  lf (g:=qL) (fun s=>by simp [qI,qL]) o.2.2.1,
  lf (g:=oZ) (fun s=>by unfold mb oZ;split <;> (try split) <;> simp) o.2.2.2.1]
 simp
structure Reads (f:D aA->aG->Option (D aA)):Prop where
 oY:∀(o:D aA) (s:aG),Nm s->f o (jj s)=some (jD o s)
 word:∀(o:D aA) (n:Int),jg (-2147483648) 2147483647 n->f o (jk n)=some (jE o n)
 sym:∀(o:D aA) (y:D aF),Nm y.1->jg 0 39 y.2.1->f o (qL y)=some (mH o y)
 tie:∀(o:D aA) (t:D aJ),rY t->f o (oZ t)=some (jh o t)
section
variable {f:D aA->aG->Option (D aA)} (h:Reads f)
include h
theorem tZ:∀(l:List aG) (o:D aA),(∀s∈l,Nm s)->run f o (l.map jj)=some (o.1++l,o.2)
 | [],o,_=>by simp [run]
 | s :: r,o,hl=>by
  rw [List.map_cons,run,h.oY o s (hl s (by simp))]
  show run f (jD o s) (r.map jj)=_
  rw [tZ r _ fun x hx=>hl x (List.mem_cons_of_mem _ hx)]
  simp [jD]
theorem ua:∀(l:List Int) (o:D aA),(∀n∈l,jg (-2147483648) 2147483647 n)->run f o (l.map jk)=some (o.1,o.2.1++l,o.2.2)
 | [],o,_=>by simp [run]
 | s :: r,o,hl=>by
  rw [List.map_cons,run,h.word o s (hl s (by simp))]
  show run f (jE o s) (r.map jk)=_
  rw [ua r _ fun x hx=>hl x (List.mem_cons_of_mem _ hx)]
  simp [jE]
theorem wG:∀(l:List (D aF)) (o:D aA),(∀y∈l,Nm y.1/\jg 0 39 y.2.1)->run f o (l.map qL)=some (o.1,o.2.1,o.2.2.1++l,o.2.2.2)
 | [],o,_=>by simp [run]
 | s :: r,o,hl=>by
  rw [List.map_cons,run,h.sym o s (hl s (by simp)).1 (hl s (by simp)).2]
  show run f (mH o s) (r.map qL)=_
  rw [wG r _ fun x hx=>hl x (List.mem_cons_of_mem _ hx)]
  simp [mH]
theorem wH:∀(l:List (D aJ)) (o:D aA),(∀t∈l,rY t)->run f o (l.map oZ)=some (o.1,o.2.1,o.2.2.1,o.2.2.2.1++l,())
 | [],o,_=>by simp [run]
 | s :: r,o,hl=>by
  rw [List.map_cons,run,h.tie o s (hl s (by simp))]
  show run f (jh o s) (r.map oZ)=_
  rw [wH r _ fun x hx=>hl x (List.mem_cons_of_mem _ hx)]
  simp [jh]
theorem Ct {o:D aA} (ok:eM o):run f (bE aA) (kg o)=some o:=by
 unfold kg
 rw [pE (tZ h o.1 _ ok.uZ),pE (ua h o.2.1 _ ok.words),pE (wG h o.2.2.1 _ ok.syms),wH h o.2.2.2.1 _ ok.AL]
 rfl
end
theorem r5 {a:UInt8} {s:aG} (h:a≠119):Lib.hasPrefix (a :: s) bO=false:=by
 unfold Lib.hasPrefix bO;simp [List.isPrefixOf];intro e;exact absurd e.symm h
theorem FA {s:aG} (h:Lib.hasPrefix s bO=false):Lib.trimPrefix s bO=s:=by unfold Lib.trimPrefix;rw [if_neg (by rw [h];decide)]
theorem yZ (s:aG):Lib.hasPrefix (bO++s) bO=true:=by unfold Lib.hasPrefix bO;simp [List.isPrefixOf]
theorem D9 (s:aG):Lib.trimPrefix (bO++s) bO=s:=by unfold Lib.trimPrefix;rw [if_pos (yZ s)];rfl
theorem y5 {a b:UInt8} {s:aG} (h:b≠101):Lib.hasPrefix (a :: b :: s) bO=false:=by
 unfold Lib.hasPrefix bO;simp [List.isPrefixOf];intro _ e;exact absurd e.symm h
theorem gy (o:D aA) (b:Bool) (s:aG) (h:Lib.hasPrefix s bO=false):ji o (cS b++s)=gg o b (parts 32 s):=by
 unfold ji
 cases b with
 | false=>show gg o (Lib.hasPrefix s bO) (parts 32 (Lib.trimPrefix s bO))=_;rw [h,FA h]
 | true=>show gg o (Lib.hasPrefix (bO++s) bO) (parts 32 (Lib.trimPrefix (bO++s) bO))=_;rw [yZ,D9]
theorem jG {s:aG} (h:Nm s):(32:UInt8)∉s/\(10:UInt8)∉s:=⟨fun hc=>(h.2.2 _ hc).2 rfl,fun hc=>(h.2.2 _ hc).1 rfl⟩
theorem gh (n:Int):(32:UInt8)∉Lib.itoa n:=tS (by decide)
theorem nD (n:Int):(10:UInt8)∉Lib.itoa n:=tS (by decide)
theorem AQ {s:aG} (h:Nm s):parts 32 (jj s) = [eh,s]:=by
 show parts 32 (eh++32 :: s)=_
 rw [cG (by decide),fc (jG h).1]
theorem AR (n:Int):parts 32 (jk n) = [dQ,Lib.itoa n]:=by
 show parts 32 (dQ++32 :: Lib.itoa n)=_
 rw [cG (by decide),fc (gh n)]
theorem Cu {s:aG} {n:Int} (h:Nm s):parts 32 ([115,121,109,98,111,108,32]++(s++32 :: Lib.itoa n)) = [dt,s,Lib.itoa n]:=by
 show parts 32 (dt++32 :: (s++32 :: Lib.itoa n))=_
 rw [cG (by decide),cG (jG h).1,fc (gh n)]
theorem AS (m n:Int):parts 32 ([98,97,115,101,32]++(Lib.itoa m++32 :: Lib.itoa n)) = [fK,Lib.itoa m,Lib.itoa n]:=by
 show parts 32 (fK++32 :: (Lib.itoa m++32 :: Lib.itoa n))=_
 rw [cG (by decide),cG (gh m),fc (gh n)]
theorem x7 {s:aG} (m n:Int) (h:Nm s):parts 32 ([119,104,111,108,101,32]++(Lib.itoa m++32 :: (Lib.itoa n++32 :: s))) = [eW,Lib.itoa m,Lib.itoa n,s]:=by
 show parts 32 (eW++32 :: (Lib.itoa m++32 :: (Lib.itoa n++32 :: s)))=_
 rw [cG (by decide),cG (gh m),cG (gh n),fc (jG h).1]
theorem AT {s:aG} (m n:Int) (h:Nm s):parts 32 ([110,101,97,114,32]++(Lib.itoa m++32 :: (Lib.itoa n++32 :: s))) = [eR,Lib.itoa m,Lib.itoa n,s]:=by
 show parts 32 (eR++32 :: (Lib.itoa m++32 :: (Lib.itoa n++32 :: s)))=_
 rw [cG (by decide),cG (gh m),cG (gh n),fc (jG h).1]
theorem pF {a b n:Int} (h:jg a b n) (ha : -9223372036854775808<=a) (hb:b<=9223372036854775807):cu (Lib.itoa n)=some n:=Cj (Int.le_trans ha h.1) (Int.le_trans h.2 hb)
theorem Gr:Reads ji where
 oY o s h:=by
  have:=gy o false (jj s) (r5 (by decide))
  rw [show cS false++jj s=jj s from rfl,AQ h] at this
  exact this
 word o n h:=by
  have:=gy o false (jk n) (y5 (by decide))
  rw [show cS false++jk n=jk n from rfl,AR] at this
  rw [this]
  show (if dQ=eh then some (jD o (Lib.itoa n)) else if dQ=dQ then (cu (Lib.itoa n)).map (jE o) else none)=_
  rw [if_neg (by decide),if_pos rfl,pF h (by decide) (by decide)];rfl
 sym o y h h':=by
  have:=gy o y.2.2.1 ([115,121,109,98,111,108,32]++(y.1++32 :: Lib.itoa y.2.1)) (r5 (by decide))
  rw [Cu h] at this
  refine Eq.trans this ?_
  dsimp only [gg]
  rw [if_pos rfl,pF h' (by decide) (by decide)];rfl
 tie o t h:=by
  obtain ⟨at',k,ad,nm,b,_⟩:=t
  have ha:=pF h.a (by decide) (by decide)
  have hw:=pF h.w (by decide) (by decide)
  simp only at ha hw
  unfold oZ
  rcases h.k with e | e | e
  ·have hb:=h.base e
   simp only at e hb
   obtain ⟨rfl,rfl⟩:=hb
   subst e
   rw [if_pos rfl]
   have:=gy o false ([98,97,115,101,32]++(Lib.itoa at'++32 :: Lib.itoa ad)) (r5 (by decide))
   rw [AS] at this
   refine this.trans ?_
   dsimp only [gg]
   rw [if_neg (by decide),if_pos rfl];unfold qK;rw [ha,hw]
  ·have hn:=h.nm (by rw [show _=_ from e];decide)
   simp only at e hn
   subst e
   rw [if_neg (by simp),if_pos rfl]
   have:=gy o b ([119,104,111,108,101,32]++(Lib.itoa at'++32 :: (Lib.itoa ad++32 :: nm))) (y5 (by decide))
   rw [x7 _ _ hn] at this
   refine this.trans ?_
   dsimp only [gg]
   rw [if_pos (.inl rfl),if_neg (by decide)];unfold qK;rw [ha,hw]
  ·have hn:=h.nm (by rw [show _=_ from e];decide)
   simp only at e hn
   subst e
   rw [if_neg (by simp),if_neg (by simp)]
   have:=gy o b ([110,101,97,114,32]++(Lib.itoa at'++32 :: (Lib.itoa ad++32 :: nm))) (r5 (by decide))
   rw [AT _ _ hn] at this
   refine this.trans ?_
   dsimp only [gg]
   rw [if_pos (.inr rfl),if_pos rfl];unfold qK;rw [ha,hw]
end Go.Mrl

namespace Go.Mrl
open Go.Vg
theorem AU {o:D aA} (h:eM o):∀l∈kg o,(10:UInt8)∉l:=by
 intro l hl
 unfold kg at hl
 simp only [List.mem_append,List.mem_map] at hl
 have hw:∀b,(10:UInt8)∉cS b:=by intro b;cases b <;> decide
 rcases hl with ⟨s,hs,rfl⟩ | ⟨n,hn,rfl⟩ | ⟨y,hy,rfl⟩ | ⟨t,ht,rfl⟩
 ·have:=(jG (h.uZ s hs)).2
  unfold jj;simp [this]
 ·have:=nD n
  unfold jk;simp [this]
 ·have h1:=(jG (h.syms y hy).1).2
  have h2:=nD y.2.1
  have h3:=hw y.2.2.1
  unfold qL;simp [h1,h2,h3]
 ·have h1:=nD t.1
  have h2:=nD t.2.2.1
  have h3:=hw t.2.2.2.2.1
  unfold oZ
  split
  ·simp [h1,h2]
  ·rename_i hk
   have h4:=(jG ((h.AL t ht).nm hk)).2
   split <;> simp [h1,h2,h3,h4]
theorem Ea {o:D aA} (h:eM o):kg o≠[]:=by
 have h1:=h.w1
 unfold kg
 intro e
 simp only [List.append_eq_nil_iff,List.map_eq_nil_iff] at e
 rw [e.2.1] at h1
 simp at h1
def AV (s:aG):Option (D aA):=run ji (bE aA) (parts 10 (Lib.trimSuffix s [10]))
theorem lP {o:D aA} (h:bk o=0):AV (cT o)=some o:=by
 have ok:=gf h
 unfold AV
 rw [x6,AK (Ea ok) (AU ok),Ct Gr ok]
theorem Cv {o p:D aA} (h:bk o=0) (h':bk p=0) (e:cT o=cT p):o=p:=by
 have a:=lP h
 rw [e,lP h'] at a
 exact (Option.some.inj a).symm
open Classical in
noncomputable def bV (s:aG):D aA × Int:=
 if s.length > 1200 then (bE aA,2)
 else if h:∃o:D aA,bk o=0/\cT o=s then (Classical.choose h,0) else (bE aA,4)
theorem ub {s:aG} (h:s.length > 1200):bV s=(bE aA,2):=by unfold bV;rw [if_pos h]
theorem pG {s:aG} {o:D aA} (h:¬ s.length > 1200) (hf:bk o=0) (ht:cT o=s):bV s=(o,0):=by
 have hx:∃o:D aA,bk o=0/\cT o=s:=⟨o,hf,ht⟩
 have hc:=Classical.choose_spec hx
 unfold bV
 rw [if_neg h,dif_pos hx,Cv hc.1 hf (hc.2.trans ht.symm)]
theorem qN {s:aG} (h:¬ s.length > 1200) (hn:∀o:D aA,bk o=0->cT o≠s):bV s=(bE aA,4):=by
 unfold bV
 rw [if_neg h,dif_neg fun ⟨o,h1,h2⟩=>hn o h1 h2]
theorem AW {s:aG} (h:¬ s.length > 1200) (hr:AV s=none):bV s=(bE aA,4):=
 qN h fun o h1 h2=>by rw [<-h2,lP h1] at hr;cases hr
theorem r6 {s:aG} {o:D aA} (h:¬ s.length > 1200) (hr:AV s=some o) (hb:bk o=0->cT o≠s):bV s=(bE aA,4):=
 qN h fun p h1 h2=>by
  have:p=o:=by rw [<-h2,lP h1] at hr;exact Option.some.inj hr
  rw [this] at h1 h2
  exact hb h1 h2
def cz (o:D aA) (b:Bool) (s:aG):D aA × Bool:=
 let w:=parts 32 (Lib.trimPrefix s bO)
 if nth .str w 0=eh/\w.length=2 then (jD o (nth .str w 1),b)
 else if nth .str w 0=dQ/\w.length=2 then (jE o (b6 (nth .str w 1)).1,b || (cu (nth .str w 1)).isNone)
 else if nth .str w 0=dt/\w.length=3 then (mH o (nth .str w 1,(b6 (nth .str w 2)).1,Lib.hasPrefix s bO,()),b || (cu (nth .str w 2)).isNone)
 else if nth .str w 0=fK/\w.length=3 then (jh o ((b6 (nth .str w 1)).1,1,(b6 (nth .str w 2)).1,[],false,()),(b || (cu (nth .str w 1)).isNone) || (cu (nth .str w 2)).isNone)
 else if (nth .str w 0=eW\/nth .str w 0=eR)/\w.length=4 then
  (jh o ((b6 (nth .str w 1)).1,if nth .str w 0=eR then 3 else 2,(b6 (nth .str w 2)).1,nth .str w 3,Lib.hasPrefix s bO,()),(b || (cu (nth .str w 1)).isNone) || (cu (nth .str w 2)).isNone)
 else (o,true)
theorem iK {s:aG} {n:Int} (h:cu s=some n):(b6 s).1=n:=by
 unfold cu at h
 unfold b6
 cases ha:Lib.atoiAll s with
 | ok v=>rw [ha] at h;simp only at h ⊢;split at h <;> simp_all
 | range=>rw [ha] at h;cases h
 | _=>rw [ha] at h;cases h
theorem AX (o:D aA) (b:Bool) (s:aG):(∃p,ji o s=some p/\cz o b s=(p,b))\/(ji o s=none/\(cz o b s).2=true):=by
 unfold ji cz
 generalize hw:parts 32 (Lib.trimPrefix s bO)=w
 generalize Lib.hasPrefix s bO=k
 have hne:=qG 32 (Lib.trimPrefix s bO)
 rw [hw] at hne
 match w,hne with
 | [],hne=>exact absurd rfl hne
 | [a],_=>exact .inr ⟨rfl,by simp⟩
 | [a,x],_=>
  dsimp only [gg]
  simp only [show nth .str [a,x] 0=a from rfl,show nth .str [a,x] 1=x from rfl]
  by_cases h1:a=eh
  ·rw [if_pos h1,if_pos (show (a=eh)/\[a,x].length=2 from ⟨h1,rfl⟩)];exact .inl ⟨_,rfl,rfl⟩
  ·rw [if_neg h1,if_neg (show ¬ ((a=eh)/\[a,x].length=2) from fun e=>h1 e.1)]
   by_cases h2:a=dQ
   ·rw [if_pos h2,if_pos (show (a=dQ)/\[a,x].length=2 from ⟨h2,rfl⟩)]
    cases hn:cu x with
    | none=>exact .inr ⟨rfl,by simp⟩
    | some n=>exact .inl ⟨_,rfl,by rw [iK hn];simp⟩
   ·rw [if_neg h2,if_neg (show ¬ ((a=dQ)/\[a,x].length=2) from fun e=>h2 e.1),if_neg (show ¬ ((a=dt)/\[a,x].length=3) from fun e=>absurd e.2 (by simp)),if_neg (show ¬ ((a=fK)/\[a,x].length=3) from fun e=>absurd e.2 (by simp)),if_neg (show ¬ ((a=eW\/a=eR)/\[a,x].length=4) from fun e=>absurd e.2 (by simp))];exact .inr ⟨rfl,rfl⟩
 | [a,x,y],_=>
  dsimp only [gg]
  simp only [show nth .str [a,x,y] 0=a from rfl,show nth .str [a,x,y] 1=x from rfl,show nth .str [a,x,y] 2=y from rfl]
  rw [if_neg (show ¬ ((a=eh)/\[a,x,y].length=2) from fun e=>absurd e.2 (by simp)),if_neg (show ¬ ((a=dQ)/\[a,x,y].length=2) from fun e=>absurd e.2 (by simp))]
  by_cases h1:a=dt
  ·rw [if_pos h1,if_pos (show (a=dt)/\[a,x,y].length=3 from ⟨h1,rfl⟩)]
   cases hn:cu y with
   | none=>exact .inr ⟨rfl,by simp⟩
   | some n=>exact .inl ⟨_,rfl,by rw [iK hn];simp⟩
  ·rw [if_neg h1,if_neg (show ¬ ((a=dt)/\[a,x,y].length=3) from fun e=>h1 e.1)]
   by_cases h2:a=fK
   ·rw [if_pos h2,if_pos (show (a=fK)/\[a,x,y].length=3 from ⟨h2,rfl⟩)]
    unfold qK
    cases hm:cu x with
    | none=>exact .inr ⟨rfl,by simp⟩
    | some m=>
     cases hn:cu y with
     | none=>exact .inr ⟨rfl,by simp⟩
     | some n=>exact .inl ⟨_,rfl,by rw [iK hn,iK hm];simp⟩
   ·rw [if_neg h2,if_neg (show ¬ ((a=fK)/\[a,x,y].length=3) from fun e=>h2 e.1),if_neg (show ¬ ((a=eW\/a=eR)/\[a,x,y].length=4) from fun e=>absurd e.2 (by simp))];exact .inr ⟨rfl,rfl⟩
 | [a,x,y,z],_=>
  dsimp only [gg]
  simp only [show nth .str [a,x,y,z] 0=a from rfl,show nth .str [a,x,y,z] 1=x from rfl,show nth .str [a,x,y,z] 2=y from rfl,show nth .str [a,x,y,z] 3=z from rfl]
  rw [if_neg (show ¬ ((a=eh)/\[a,x,y,z].length=2) from fun e=>absurd e.2 (by simp)),if_neg (show ¬ ((a=dQ)/\[a,x,y,z].length=2) from fun e=>absurd e.2 (by simp)),if_neg (show ¬ ((a=dt)/\[a,x,y,z].length=3) from fun e=>absurd e.2 (by simp)),if_neg (show ¬ ((a=fK)/\[a,x,y,z].length=3) from fun e=>absurd e.2 (by simp))]
  by_cases h1:a=eW\/a=eR
  ·rw [if_pos h1,if_pos (show (a=eW\/a=eR)/\[a,x,y,z].length=4 from ⟨h1,rfl⟩)]
   unfold qK
   cases hm:cu x with
   | none=>exact .inr ⟨rfl,by simp⟩
   | some m=>
    cases hn:cu y with
    | none=>exact .inr ⟨rfl,by simp⟩
    | some n=>exact .inl ⟨_,rfl,by rw [iK hn,iK hm];simp⟩
  ·rw [if_neg h1,if_neg (show ¬ ((a=eW\/a=eR)/\[a,x,y,z].length=4) from fun e=>h1 e.1)];exact .inr ⟨rfl,rfl⟩
 | a :: x :: y :: z :: u :: r,_=>exact .inr ⟨rfl,by simp⟩
theorem Cw (o:D aA) (s:aG):(cz o true s).2=true:=by
 unfold cz;simp only [Bool.true_or]
 split
 ·rfl
 ·split
  ·rfl
  ·split
   ·rfl
   ·split
    ·rfl
    ·split <;> rfl
theorem Cy (o:D aA) (b:Bool) (s:aG) :
  (cz o b s).1.1.length<=o.1.length + 1/\(cz o b s).1.2.1.length<=o.2.1.length + 1/\(cz o b s).1.2.2.1.length<=o.2.2.1.length + 1/\(cz o b s).1.2.2.2.1.length<=o.2.2.2.1.length + 1:=by
 have e:∀{α:Type} (l:List α) (x:α),(l++[x]).length<=l.length + 1:=fun l x=>by simp
 have e0:∀n:Nat,n<=n + 1:=fun n=>Nat.le_succ n
 unfold cz
 simp only
 split
 ·exact ⟨e _ _,e0 _,e0 _,e0 _⟩
 ·split
  ·exact ⟨e0 _,e _ _,e0 _,e0 _⟩
  ·split
   ·exact ⟨e0 _,e0 _,e _ _,e0 _⟩
   ·split
    ·exact ⟨e0 _,e0 _,e0 _,e _ _⟩
    ·split
     ·exact ⟨e0 _,e0 _,e0 _,e _ _⟩
     ·exact ⟨e0 _,e0 _,e0 _,e0 _⟩
structure eX (L:List aG) (i:Nat) (o:D aA) (b:Bool):Prop where
 le:i<=L.length
 st:(run ji (bE aA) (L.take i)=some o/\b=false)\/(run ji (bE aA) (L.take i)=none/\b=true)
 l1:o.1.length<=i
 l2:o.2.1.length<=i
 l3:o.2.2.1.length<=i
 l4:o.2.2.2.1.length<=i
theorem eX.zero (L:List aG):eX L 0 (bE aA) false:=⟨Nat.zero_le _, .inl ⟨rfl,rfl⟩,Nat.le_refl _,Nat.le_refl _,Nat.le_refl _,Nat.le_refl _⟩
theorem eX.next {L:List aG} {i:Nat} {o:D aA} {b:Bool} (h:eX L i o b) (hi:i < L.length):eX L (i + 1) (cz o b (nth .str L i)).1 (cz o b (nth .str L i)).2:=by
 obtain ⟨a1,a2,a3,a4⟩:=Cy o b (nth .str L i)
 refine ⟨hi,?_,by have:=h.l1;omega,by have:=h.l2;omega,by have:=h.l3;omega,by have:=h.l4;omega⟩
 rw [fZ (t:=.str) hi,wF]
 rcases h.st with ⟨hr,hb⟩ | ⟨hr,hb⟩
 ·rw [hr,Option.bind_some]
  rcases AX o b (nth .str L i) with ⟨p,h1,h2⟩ | ⟨h1,h2⟩
  ·rw [h2];exact .inl ⟨h1,hb⟩
  ·exact .inr ⟨h1,h2⟩
 ·rw [hr,hb];exact .inr ⟨rfl,Cw o _⟩
end Go.Mrl

namespace Go.Mrl
open Go.Vg
abbrev E4:=Unit × List (List UInt8) × List Int × List (D aF) × List (D aJ) × (Bool × Unit) × Unit
def Eb (x:E4):D aA:=(x.2.1,x.2.2.1,x.2.2.2.1,x.2.2.2.2.1,())
def Cz (p:D aA × Bool):E4:=((),p.1.1,p.1.2.1,p.1.2.2.1,p.1.2.2.2.1,(p.2,()),())
theorem wI (s p:aG):(Lib.trimPrefix s p).length<=s.length:=by unfold Lib.trimPrefix;split <;> simp
theorem y7 {s:aG} {w:List aG} (hw:w=parts 32 (Lib.trimPrefix s bO)) (i:Nat):(nth .str w i).length<=s.length:=by
 by_cases h:i < w.length
 ·have h1:=en (t:=.str) h
  rw [hw] at h1
  have:=jA _ _ _ h1
  rw [<-hw] at this
  exact Nat.le_trans this (wI _ _)
 ·unfold nth;rw [List.getD_eq_getElem?_getD,List.getElem?_eq_none (by omega)];exact Nat.zero_le _
theorem Ec {s:aG} {w:List aG} (hw:w=parts 32 (Lib.trimPrefix s bO)):0 < w.length:=by rw [hw];exact List.length_pos_iff.2 (qG _ _)
theorem fr {c:Bool} {P:Prop} (q:c=true ↔ P) (h:c=false):¬ P:=fun p=>by rw [q.2 p] at h;cases h
section
variable {o:D aA} {b:Bool} {s:aG} {w:List aG} (hw:w=parts 32 (Lib.trimPrefix s bO))
include hw
theorem AY (h:nth .str w 0=eh/\w.length=2):cz o b s=(jD o (nth .str w 1),b):=by
 unfold cz;simp only;rw [<-hw,if_pos h]
theorem AZ (h0:¬ (nth .str w 0=eh/\w.length=2)) (h:nth .str w 0=dQ/\w.length=2):cz o b s=(jE o (b6 (nth .str w 1)).1,b || (cu (nth .str w 1)).isNone):=by
 unfold cz;simp only;rw [<-hw,if_neg h0,if_pos h]
theorem CA (h0:¬ (nth .str w 0=eh/\w.length=2)) (h1:¬ (nth .str w 0=dQ/\w.length=2)) (h:nth .str w 0=dt/\w.length=3) :
  cz o b s=(mH o (nth .str w 1,(b6 (nth .str w 2)).1,Lib.hasPrefix s bO,()),b || (cu (nth .str w 2)).isNone):=by
 unfold cz;simp only;rw [<-hw,if_neg h0,if_neg h1,if_pos h]
theorem A0 (h0:¬ (nth .str w 0=eh/\w.length=2)) (h1:¬ (nth .str w 0=dQ/\w.length=2)) (h2:¬ (nth .str w 0=dt/\w.length=3)) (h:nth .str w 0=fK/\w.length=3) :
  cz o b s=(jh o ((b6 (nth .str w 1)).1,1,(b6 (nth .str w 2)).1,[],false,()),(b || (cu (nth .str w 1)).isNone) || (cu (nth .str w 2)).isNone):=by
 unfold cz;simp only;rw [<-hw,if_neg h0,if_neg h1,if_neg h2,if_pos h]
theorem uc (h0:¬ (nth .str w 0=eh/\w.length=2)) (h1:¬ (nth .str w 0=dQ/\w.length=2)) (h2:¬ (nth .str w 0=dt/\w.length=3)) (h3:¬ (nth .str w 0=fK/\w.length=3))
  (h:(nth .str w 0=eW\/nth .str w 0=eR)/\w.length=4) {k:Int} (hk:k=if nth .str w 0=eR then 3 else 2) :
  cz o b s=(jh o ((b6 (nth .str w 1)).1,k,(b6 (nth .str w 2)).1,nth .str w 3,Lib.hasPrefix s bO,()),(b || (cu (nth .str w 1)).isNone) || (cu (nth .str w 2)).isNone):=by
 unfold cz;simp only;rw [<-hw,if_neg h0,if_neg h1,if_neg h2,if_neg h3,if_pos h,hk]
theorem A4 (h0:¬ (nth .str w 0=eh/\w.length=2)) (h1:¬ (nth .str w 0=dQ/\w.length=2)) (h2:¬ (nth .str w 0=dt/\w.length=3)) (h3:¬ (nth .str w 0=fK/\w.length=3))
  (h:¬ ((nth .str w 0=eW\/nth .str w 0=eR)/\w.length=4)):cz o b s=(o,true):=by
 unfold cz;simp only;rw [<-hw,if_neg h0,if_neg h1,if_neg h2,if_neg h3,if_neg h]
end
end Go.Mrl

namespace Go.Mrl
open Go.Vg
end Go.Mrl

namespace Go.Mrl
open Go.Vg
noncomputable def gW (s:aG):D aA × aU:=((bV s).1,aY (bV s).2)
theorem A5 {s:aG} (h:s.length > 1200):(bE aA,aU.no 2)=gW s:=by unfold gW;rw [ub h];rfl
theorem eX.run {L:List aG} {i:Nat} {o:D aA} {b:Bool} (h:eX L i o b) (hi:¬ i < L.length):(run ji (bE aA) L=some o/\b=false)\/(run ji (bE aA) L=none/\b=true):=by
 have:=h.st
 rwa [List.take_of_length_le (by omega)] at this
theorem o1 {s:aG} {i:Nat} {o:D aA} {b:Bool} (h:eX (parts 10 (Lib.trimSuffix s [10])) i o b) (hi:¬ i < (parts 10 (Lib.trimSuffix s [10])).length) (hl:¬ s.length > 1200)
  (hb:b=true\/(eg o).2.isNil=false\/¬ (eg o).1=s):(bE aA,aU.no 4)=gW s:=by
 have:bV s=(bE aA,4):=by
  rcases h.run hi with ⟨hr,h0⟩ | ⟨hr,h0⟩
  ·rcases hb with hb | hb | hb
   ·rw [hb] at h0;cases h0
   ·refine r6 hl hr fun hf ht => ?_
    rw [nC hf rfl (by show (cT o).length<=1200;rw [ht];omega)] at hb
    cases hb
   ·refine r6 hl hr fun hf ht=>hb ?_
    rw [nC hf rfl (by show (cT o).length<=1200;rw [ht];omega)]
    exact ht
  ·exact AW hl hr
 unfold gW;rw [this];rfl
theorem Ed {s:aG} {o:D aA} (hl:¬ s.length > 1200)
  (hn:(eg o).2.isNil=true) (ht:(eg o).1=s):(o,aU.nil)=gW s:=by
 have hf:bk o=0:=by
  apply Classical.byContradiction;intro hf
  rw [tY hf] at hn
  exact hf (aZ.1 hn)
 have hs:cT o=s:=by
  by_cases h:(cT o).length > 1200
  ·rw [r4 hf rfl h] at hn;cases hn
  ·rw [nC hf rfl (by show (cT o).length<=1200;omega)] at ht;exact ht
 unfold gW;rw [pG hl hf hs];rfl
theorem FB (s p:aG):(Lib.trimSuffix s p).length<=s.length:=by unfold Lib.trimSuffix;split <;> simp
theorem CB (s:aG) (h:s.length<=1200):(parts 10 (Lib.trimSuffix s [10])).length<=1201:=by
 have h1:=oU 10 (Lib.trimSuffix s [10])
 have h2:(Lib.trimSuffix s [10]).length<=s.length:=by unfold Lib.trimSuffix;split <;> simp
 omega
theorem A6 {s:aG} (h:s.length<=1200) (i:Nat):(nth .str (parts 10 (Lib.trimSuffix s [10])) i).length<=1200:=by
 by_cases hi:i < (parts 10 (Lib.trimSuffix s [10])).length
 ·have:=jA _ _ _ (en (t:=.str) hi)
  have h2:(Lib.trimSuffix s [10]).length<=s.length:=by unfold Lib.trimSuffix;split <;> simp
  omega
 ·unfold nth;rw [List.getD_eq_getElem?_getD,List.getElem?_eq_none (by omega)];exact Nat.zero_le _
end Go.Mrl

namespace Go.Mrl
open Go.Vg
abbrev Rd:=aG->aG × Int × Int
structure ft (rd:Rd):Prop where
 code:∀s,(rd s).2.2=0\/(rd s).2.2=5
 G2:∃K:List aG,K.length<=6/\∀s,(rd s).2.2=0->s∈K
def cj (ns l:List aG):List aG:=l.foldl (fun ns s=>if ns.any (· == s)=true then ns else ns++[s]) ns
noncomputable def ei (rd:Rd) (s:aG):D aA:=(bV (rd s).1).1
noncomputable def bZ (rd:Rd) (s:aG):Int:=if (rd s).2.2=0 then (bV (rd s).1).2 else (rd s).2.2
noncomputable def gX (rd:Rd):Nat->Nat->List aG->List (D aA)->List aG × List (D aA) × Int
 | 0,_,ns,os=>(ns,os,0)
 | k + 1,i,ns,os=>
  if i < ns.length then
   if bZ rd (nth .str ns i)=0 then gX rd k (i + 1) (cj ns (ei rd (nth .str ns i)).1) (os++[ei rd (nth .str ns i)])
   else ([],[],bZ rd (nth .str ns i))
  else (ns,os,0)
noncomputable def aR (rd:Rd) (root:aG):List aG × List (D aA) × Int:=gX rd 7 0 [root] []
theorem r7 (s:aG):((bV s).2=0/\bk (bV s).1=0/\cT (bV s).1=s)\/bV s=(bE aA,2)\/bV s=(bE aA,4):=by
 by_cases h:s.length > 1200
 ·exact .inr (.inl (ub h))
 ·by_cases h2:∃o:D aA,bk o=0/\cT o=s
  ·obtain ⟨o,h3,h4⟩:=h2
   rw [pG h h3 h4];exact .inl ⟨rfl,h3,h4⟩
  ·exact .inr (.inr (qN h fun o h3 h4=>h2 ⟨o,h3,h4⟩))
theorem x8 (s:aG):0<=(bV s).2:=by
 rcases r7 s with ⟨h,_⟩ | h | h <;> rw [h] <;> decide
theorem r8 {s:aG} (h:(bV s).2=0):bk (bV s).1=0:=by
 rcases r7 s with ⟨_,h,_⟩ | h' | h'
 ·exact h
 ·rw [h'] at h;cases h
 ·rw [h'] at h;cases h
theorem sV {rd:Rd} (h:ft rd) (s:aG):0<=bZ rd s:=by
 unfold bZ
 split
 ·exact x8 _
 ·rcases h.code s with e | e <;> rw [e] <;> decide
theorem lg {rd:Rd} (h:ft rd) {s:aG} (e:bZ rd s=0):(rd s).2.2=0/\(bV (rd s).1).2=0:=by
 unfold bZ at e
 rcases h.code s with c | c
 ·rw [if_pos c] at e;exact ⟨c,e⟩
 ·rw [if_neg (by rw [c];decide),c] at e;cases e
theorem o3 {rd:Rd} {s:aG} (e:¬ (rd s).2.2=0):bZ rd s=(rd s).2.2:=by unfold bZ;rw [if_neg e]
theorem mc {rd:Rd} {s:aG} (e:(rd s).2.2=0):bZ rd s=(bV (rd s).1).2:=by unfold bZ;rw [if_pos e]
theorem Ee (ns:List aG):cj ns []=ns:=rfl
theorem o4 (ns l:List aG) (s:aG):cj ns (s :: l)=cj (if ns.any (· == s)=true then ns else ns++[s]) l:=rfl
theorem CC (ns l:List aG) (s:aG):cj ns (l++[s])=if (cj ns l).any (· == s)=true then cj ns l else cj ns l++[s]:=by
 unfold cj;rw [List.foldl_append];rfl
theorem y8 {ns:List aG} {s:aG}:ns.any (· == s)=true ↔ s∈ns:=by
 rw [List.any_eq_true]
 constructor
 ·rintro ⟨x,hx,e⟩;rw [<-(by simpa using e:x=s)];exact hx
 ·intro h;exact ⟨s,h,by simp⟩
theorem jH:∀(l ns:List aG),∃r,cj ns l=ns++r/\r.length<=l.length/\∀s∈r,s∈l
 | [],ns=>⟨[],by simp [Ee],by simp,by simp⟩
 | x :: l,ns=>by
  rw [o4]
  split
  ·obtain ⟨r,h1,h2,h3⟩:=jH l ns
   exact ⟨r,h1,by simp;omega,fun s hs=>by simp [h3 s hs]⟩
  ·obtain ⟨r,h1,h2,h3⟩:=jH l (ns++[x])
   refine ⟨x :: r,by rw [h1];simp,by simp;omega,fun s hs => ?_⟩
   rcases List.mem_cons.1 hs with rfl | hs
   ·simp
   ·simp [h3 s hs]
theorem nE:∀(l ns:List aG),ns.Nodup->(cj ns l).Nodup
 | [],ns,h=>h
 | x :: l,ns,h=>by
  rw [o4]
  split
  ·exact nE l ns h
  ·rename_i hx
   refine nE l _ ?_
   rw [List.nodup_append]
   refine ⟨h,by simp,fun a ha b hb e=>hx (y8.2 ?_)⟩
   simp at hb;subst hb;exact e▸ha
theorem wJ:∀(l ns:List aG),∀s∈l,s∈cj ns l
 | [],_,s,h=>by simp at h
 | x :: l,ns,s,h=>by
  rw [o4]
  rcases List.mem_cons.1 h with rfl | h
  ·split
   ·rename_i hx
    obtain ⟨r,h1,_⟩:=jH l ns
    rw [h1];exact List.mem_append_left _ (y8.1 hx)
   ·obtain ⟨r,h1,_⟩:=jH l (ns++[s])
    rw [h1];simp
  ·exact wJ l _ s h
theorem ud {ns l:List aG} {i:Nat} (h:i < l.length):cj ns (l.take (i + 1))=if (cj ns (l.take i)).any (· == nth .str l i)=true then cj ns (l.take i) else cj ns (l.take i)++[nth .str l i]:=by
 rw [fZ (t:=.str) h,CC]
theorem o5 {t:Ty} {a b:List (D t)} {i:Nat} (h:i < a.length):nth t (a++b) i=nth t a i:=by rw [kC,if_pos h]
structure eN (rd:Rd) (root:aG) (i:Nat) (ns:List aG) (os:List (D aA)):Prop where
 eq:gX rd (7 - i) i ns os=aR rd root
 le:i<=6
 lo:i<=ns.length
 pos:0 < ns.length
 len:os.length=i
 hi:ns.length<=1 + 4 * i
 head:nth .str ns 0=root
 nd:ns.Nodup
 y9:∀j,j < i->bZ rd (nth .str ns j)=0/\nth aA os j=ei rd (nth .str ns j)
 want:∀j,j < ns.length->j≠0->∃k,k < i/\k < j/\nth .str ns j∈(nth aA os k).1
 oY:∀j,j < i->∀s∈(nth aA os j).1,s∈ns
theorem eN.zero (rd:Rd) (root:aG):eN rd root 0 [root] []:=
 ⟨rfl,by omega,by simp,by simp,rfl,by simp,rfl,by simp,fun j h=>by omega,fun j h h'=>by simp at h;omega,fun j h=>by omega⟩
theorem eN.room {rd:Rd} {root:aG} {i:Nat} {ns:List aG} {os:List (D aA)} (ok:ft rd) (h:eN rd root i ns os) (hi:i < ns.length) (hf:bZ rd (nth .str ns i)=0):i + 1<=6:=by
 obtain ⟨K,hK,hm⟩:=ok.G2
 have hsub:∀y∈ns.take (i + 1),y∈K:=by
  intro y hy
  obtain ⟨j,hj,rfl⟩:=pC (t:=.str) hy
  rw [List.length_take] at hj
  rw [wi (t:=.str) (by omega)]
  refine hm _ (lg ok ?_).1
  rcases Nat.lt_or_ge j i with hl | hl
  ·exact (h.y9 j hl).1
  ·rw [show j=i by omega];exact hf
 have:=tM (h.nd.sublist (List.take_sublist (i + 1) ns)) hsub
 rw [List.length_take] at this
 omega
theorem eN.fuel {rd:Rd} {root:aG} {i:Nat} {ns:List aG} {os:List (D aA)} (h:eN rd root i ns os):gX rd (6 - i + 1) i ns os=aR rd root:=by
 rw [<-h.eq];congr 1;have:=h.le;omega
theorem eN.bad {rd:Rd} {root:aG} {i:Nat} {ns:List aG} {os:List (D aA)} (h:eN rd root i ns os) (hi:i < ns.length) (hf:¬ bZ rd (nth .str ns i)=0) :
  aR rd root=([],[],bZ rd (nth .str ns i)):=by
 rw [<-h.fuel,gX,if_pos hi,if_neg hf]
theorem eN.done {rd:Rd} {root:aG} {i:Nat} {ns:List aG} {os:List (D aA)} (h:eN rd root i ns os) (hi:¬ i < ns.length):aR rd root=(ns,os,0):=by
 rw [<-h.fuel,gX,if_neg hi]
theorem qO {rd:Rd} (ok:ft rd) {s:aG} (hf:bZ rd s=0):eM (ei rd s):=gf (r8 (lg ok hf).2)
theorem eN.next {rd:Rd} {root:aG} {i:Nat} {ns:List aG} {os:List (D aA)} (ok:ft rd) (h:eN rd root i ns os) (hi:i < ns.length) (hf:bZ rd (nth .str ns i)=0) :
  eN rd root (i + 1) (cj ns (ei rd (nth .str ns i)).1) (os++[ei rd (nth .str ns i)]):=by
 have hr:=h.room ok hi hf
 have ho:=qO ok hf
 obtain ⟨r,h1,h2,h3⟩:=jH (ei rd (nth .str ns i)).1 ns
 have hn4:=ho.n4
 have hlen:=h.len
 have hhi:=h.hi
 have hpos:=h.pos
 have hos:nth aA (os++[ei rd (nth .str ns i)]) i=ei rd (nth .str ns i):=by rw [kC,if_neg (by omega),h.len,Nat.sub_self];rfl
 have hns:∀j,j < ns.length->nth .str (cj ns (ei rd (nth .str ns i)).1) j=nth .str ns j:=fun j hj=>by rw [h1,o5 (t:=.str) hj]
 have hoj:∀j,j < i->nth aA (os++[ei rd (nth .str ns i)]) j=nth aA os j:=fun j hj=>o5 (t:=aA) (by omega)
 refine ⟨?_,hr,by rw [h1,List.length_append];omega,by rw [h1,List.length_append];omega,by rw [List.length_append,h.len];rfl,by rw [h1,List.length_append];omega,
  by rw [hns 0 hpos];exact h.head,nE _ _ h.nd,fun j hj => ?_,fun j hj h0 => ?_,fun j hj s hs => ?_⟩
 ·rw [<-h.fuel,gX,if_pos hi,if_pos hf];congr 1;omega
 ·rcases Nat.lt_or_ge j i with hl | hl
  ·rw [hns j (by omega),hoj j hl];exact h.y9 j hl
  ·rw [show j=i by omega,hns i hi,hos];exact ⟨hf,rfl⟩
 ·rcases Nat.lt_or_ge j ns.length with hl | hl
  ·obtain ⟨k,k1,k2,k3⟩:=h.want j hl h0
   exact ⟨k,by omega,k2,by rw [hns j hl,hoj k k1];exact k3⟩
  ·refine ⟨i,by omega,by omega,?_⟩
   rw [hos,h1,kC,if_neg (by omega)]
   refine h3 _ (en (t:=.str) ?_)
   rw [h1,List.length_append] at hj;omega
 ·rcases Nat.lt_or_ge j i with hl | hl
  ·rw [hoj j hl] at hs
   rw [h1];exact List.mem_append_left _ (h.oY j hl s hs)
  ·rw [show j=i by omega,hos] at hs
   exact wJ _ _ s hs
structure Scope (rd:Rd) (root:aG) (ns:List aG) (os:List (D aA)):Prop where
 le:ns.length<=6
 pos:0 < ns.length
 len:os.length=ns.length
 head:nth .str ns 0=root
 nd:ns.Nodup
 y9:∀j,j < ns.length->bZ rd (nth .str ns j)=0/\nth aA os j=ei rd (nth .str ns j)
 want:∀j,j < ns.length->j≠0->∃k,k < j/\nth .str ns j∈(nth aA os k).1
 oY:∀j,j < ns.length->∀s∈(nth aA os j).1,s∈ns
theorem r9 {rd:Rd} {root:aG} (ok:ft rd):∀(m i:Nat) (ns:List aG) (os:List (D aA)),m=7 - i->eN rd root i ns os->
  (∃f,0 < f/\aR rd root=([],[],f))\/(∃ns os,aR rd root=(ns,os,0)/\Scope rd root ns os)
 | 0,i,ns,os,hm,h=>by have:=h.le;omega
 | m + 1,i,ns,os,hm,h=>by
  by_cases hi:i < ns.length
  ·by_cases hf:bZ rd (nth .str ns i)=0
   ·exact r9 ok m (i + 1) _ _ (by omega) (h.next ok hi hf)
   ·have:=sV ok (nth .str ns i)
    exact .inl ⟨_,by omega,h.bad hi hf⟩
  ·have h1:=h.lo
   have h2:=h.le
   have e:i=ns.length:=by omega
   subst e
   exact .inr ⟨ns,os,h.done hi,h2,h.pos,h.len,h.head,h.nd,h.y9,fun j hj h0=>let ⟨k,_,k2,k3⟩:=h.want j hj h0;⟨k,k2,k3⟩,h.oY⟩
theorem p5 {rd:Rd} (ok:ft rd) (root:aG):(∃f,0 < f/\aR rd root=([],[],f))\/(∃ns os,aR rd root=(ns,os,0)/\Scope rd root ns os):=
 r9 ok 7 0 _ _ rfl (eN.zero rd root)
theorem qP {rd:Rd} (ok:ft rd) {root:aG} (h:(aR rd root).2.2=0):Scope rd root (aR rd root).1 (aR rd root).2.1:=by
 rcases p5 ok root with ⟨f,hf,e⟩ | ⟨ns,os,e,h'⟩
 ·rw [e] at h;simp only at h;omega
 ·rw [e];exact h'
theorem gi {x:mG} (h:x.2.1.1.length<=6):ft (bw x):=by
 refine ⟨fun s => ?_,x.2.1.1.map GW,by rw [List.length_map];exact h,fun s hs => ?_⟩
 ·unfold bw;split
  ·exact .inl rfl
  ·exact .inr rfl
 ·by_cases c:dO eL x.2.1.1 s=true
  ·obtain ⟨y,hy,e⟩:=wz.1 c
   rw [<-e];exact List.mem_map_of_mem hy
  ·rw [tL (by simpa using c)] at hs;cases hs
end Go.Mrl

namespace Go.Mrl
open Go.Vg
section
variable {rd:Rd} {root:aG} {i:Nat} {ns:List aG} {os:List (D aA)}
theorem eN.Ef (ok:ft rd) (h:eN rd root i ns os) (hi:i < ns.length) (he:¬ (rd (nth .str ns i)).2.2=0) :
  aR rd root=([],[],(rd (nth .str ns i)).2.2):=by
 rw [h.bad hi (by rw [o3 he];exact he),o3 he]
theorem eN.FC (h:eN rd root i ns os) (hi:i < ns.length) (he:(rd (nth .str ns i)).2.2=0) (ho:¬ (bV (rd (nth .str ns i)).1).2=0) :
  aR rd root=([],[],(bV (rd (nth .str ns i)).1).2):=by
 rw [h.bad hi (by rw [mc he];exact ho),mc he]
theorem sW {s:aG} (he:(rd s).2.2=0) (ho:(bV (rd s).1).2=0):bZ rd s=0:=by rw [mc he];exact ho
theorem eN.GY (h:eN rd root i ns os):os.length + 1<=1000000000:=by have:=h.len;have:=h.le;omega
theorem eN.Gs (h:eN rd root i ns os) (ok:ft rd) {s:aG} (hf:bZ rd s=0) (k:Nat):(cj ns (List.take k (ei rd s).1)).length + 1<=1000000000:=by
 obtain ⟨r,h1,h2,_⟩:=jH (List.take k (ei rd s).1) ns
 have:=(qO ok hf).n4
 have:=h.hi
 have:=h.le
 rw [h1,List.length_append]
 rw [List.length_take] at h2
 omega
theorem zA {l:List aG} {k:Nat} (h:k < l.length) (hn:(cj ns (l.take k)).any (fun x=>x == nth .str l k)=false):cj ns (l.take k)++[nth .str l k]=cj ns (l.take (k + 1)):=by
 rw [ud h,if_neg (by rw [hn];exact Bool.false_ne_true)]
theorem zB {l:List aG} {k:Nat} (h:k < l.length) (hn:(cj ns (l.take k)).any (fun x=>x == nth .str l k)=true):cj ns (l.take k)=cj ns (l.take (k + 1)):=by
 rw [ud h,if_pos hn]
theorem zC {l:List aG} {k:Nat} (h:¬ k < l.length):cj ns (l.take k)=cj ns l:=by rw [List.take_of_length_le (by omega)]
end
end Go.Mrl

namespace Go.Mrl
open Go.Vg
end Go.Mrl
namespace Go.Mrl
open Go.Vg
end Go.Mrl

namespace Go.Mrl
open Go.Vg
end Go.Mrl

namespace Go.Mrl
open Go.Vg
def bG (l:List (D aA)):List Int:=l.map fun o=>(o.2.1.length:Int)
def bM (l:List (D aA)):Ws:=l.map fun o=>o.2.1
theorem A7 (l:List (D aA)):(bG l).length=l.length:=by simp [bG]
theorem jl (l:List (D aA)):(bM l).length=l.length:=by simp [bM]
theorem sX {t u:Ty} {f:D u->D t} {l:List (D u)} {i:Nat} (h:i < l.length):nth t (l.map f) i=f (nth u l i):=by
 unfold nth;rw [List.getD_eq_getElem?_getD,List.getD_eq_getElem?_getD,List.getElem?_map,List.getElem?_eq_getElem h];rfl
theorem sa {l:List (D aA)} {i:Nat} (h:i < l.length):nth dn (bM l) i=(nth aA l i).2.1:=sX (u:=aA) (t:=dn) h
theorem p6 {l:List (D aA)} {i:Nat} (h:i < l.length):bG (l.take (i + 1))=bG (l.take i)++[((nth aA l i).2.1.length:Int)]:=by
 unfold bG;rw [ke (t:=aA) h];simp
theorem p7 {l:List (D aA)} {i:Nat} (h:i < l.length):bM (l.take (i + 1))=bM (l.take i)++[(nth aA l i).2.1]:=by
 unfold bM;rw [ke (t:=aA) h];simp
noncomputable def jm (l:List (D aA)) (b:List Int) (i:Nat) (ts:List (D aJ)):List Pt:=ts.map fun t=>((i:Int),t.1,(bP l b i t).1,())
noncomputable def gH (l:List (D aA)) (b:List Int):List (D aA)->Nat->List Pt
 | [],_=>[]
 | o :: r,i=>jm l b i o.2.2.2.1++gH l b r (i + 1)
theorem zD {l:List (D aA)} {b:List Int} {i:Nat}:∀{ts:List (D aJ)} {out:List Pt},(e8 l b i ts out).2.isNil=true->e8 l b i ts out=(out++jm l b i ts, .nil)/\∀t∈ts,(bP l b i t).2.isNil=true
 | [],out,_=>⟨by simp [e8,jm],by simp⟩
 | t :: r,out,h=>by
  rw [e8] at h ⊢
  by_cases c:(bP l b i t).2.isNil=true
  ·rw [if_pos c] at h ⊢
   obtain ⟨h1,h2⟩:=zD h
   refine ⟨by rw [h1];simp [jm],fun u hu => ?_⟩
   rcases List.mem_cons.1 hu with rfl | hu
   ·exact c
   ·exact h2 u hu
  ·rw [if_neg c] at h;exact absurd h c
theorem zE {l:List (D aA)} {b:List Int}:∀{os:List (D aA)} {i:Nat} {out:List Pt},(e9 l b os i out).2.isNil=true->e9 l b os i out=(out++gH l b os i, .nil)/\
  ∀k,k < os.length->∀t∈(nth aA os k).2.2.2.1,(bP l b ((i + k:Nat):Int) t).2.isNil=true
 | [],i,out,_=>⟨by simp [e9,gH],fun k hk=>by simp at hk⟩
 | o :: r,i,out,h=>by
  rw [e9] at h ⊢
  unfold gw at h ⊢
  by_cases c:(e8 l b i o.2.2.2.1 out).2.isNil=true
  ·rw [if_pos c] at h ⊢
   obtain ⟨h1,h2⟩:=zD c
   obtain ⟨h3,h4⟩:=zE h
   refine ⟨by rw [h3,h1];simp [gH],fun k hk => ?_⟩
   rcases k with _ | k
   ·exact h2
   ·have:=h4 k (by simpa using hk)
    rw [show i + 1 + k=i + (k + 1) by omega] at this
    exact this
  ·rw [if_neg c] at h;exact absurd h c
theorem lh {l:List (D aA)} {b:List Int} (h:(br (l,b)).2.isNil=true):b.length=l.length/\gC b/\(br (l,b)).1=gH l b l 0/\∀k,k < l.length->∀t∈(nth aA l k).2.2.2.1,(bP l b (k:Int) t).2.isNil=true:=by
 have h':=h
 unfold br at h ⊢
 split at h
 ·cases h
 ·rename_i hl
  split at h
  ·rename_i hb
   obtain ⟨h1,h2⟩:=zE h
   refine ⟨Classical.byContradiction hl,hb,?_,fun k hk t ht=>by have:=h2 k hk t ht;rwa [Nat.zero_add] at this⟩
   rw [if_neg hl,if_pos hb,h1];rfl
  ·cases h
theorem wK {l:List (D aA)} {b:List Int}:∀{os:List (D aA)} {i:Nat} {p:Pt},p∈gH l b os i->∃k t,k < os.length/\t∈(nth aA os k).2.2.2.1/\p=(((i + k:Nat):Int),t.1,(bP l b ((i + k:Nat):Int) t).1,())
 | [],i,p,h=>by simp [gH] at h
 | o :: r,i,p,h=>by
  rcases List.mem_append.1 h with h | h
  ·obtain ⟨t,ht,rfl⟩:=List.mem_map.1 h
   exact ⟨0,t,by simp,ht,rfl⟩
  ·obtain ⟨k,t,hk,ht,rfl⟩:=wK h
   exact ⟨k + 1,t,by simp;omega,ht,by rw [show i + 1 + k=i + (k + 1) by omega]⟩
theorem sb (x:List Int × List (D aO)):Told (bK x).2:=by
 unfold bK
 split
 ·rfl
 ·split
  ·rfl
  ·split <;> rfl
theorem Eg (x:Ws × List Pt):Told (dq x).2:=by
 unfold dq;split <;> rfl
theorem nF {e:aU} (h:Told e):aY (cg e)=e:=by
 cases e with
 | nil=>rfl
 | no m=>
  have h':0 < m:=by have:=h;simpa [Told,pB,cg] using this
  have h2:¬ m=0:=by omega
  show aY m=_
  unfold aY
  rw [if_neg h2]
 | other=>unfold Told at h;simp [pB] at h
theorem wL {e:aU} (h:Told e) (hn:e.isNil=false):0 < cg e:=by
 cases e with
 | nil=>cases hn
 | no m=>
  have h':0 < m:=by have:=h;simpa [Told,pB,cg] using this
  exact h'
 | other=>unfold Told at h;simp [pB] at h
abbrev Rk:=List aG × List (D aA) × List Int × List Pt × Int
noncomputable def bf (rd:Rd) (root:aG):Rk:=
 if ¬ (aR rd root).2.2=0 then ([],[],[],[],(aR rd root).2.2)
 else if (bK (bG (aR rd root).2.1,[])).2.isNil=false then ([],[],[],[],cg (bK (bG (aR rd root).2.1,[])).2)
 else if (br ((aR rd root).2.1,(bK (bG (aR rd root).2.1,[])).1)).2.isNil=false then ([],[],[],[],cg (br ((aR rd root).2.1,(bK (bG (aR rd root).2.1,[])).1)).2)
 else ((aR rd root).1,(aR rd root).2.1,(bK (bG (aR rd root).2.1,[])).1,(br ((aR rd root).2.1,(bK (bG (aR rd root).2.1,[])).1)).1,0)
theorem o6 {rd:Rd} {root:aG} (h:¬ (aR rd root).2.2=0):bf rd root=([],[],[],[],(aR rd root).2.2):=by unfold bf;rw [if_pos h]
theorem o7 {rd:Rd} {root:aG} (h:(aR rd root).2.2=0) (h1:(bK (bG (aR rd root).2.1,[])).2.isNil=false):bf rd root=([],[],[],[],cg (bK (bG (aR rd root).2.1,[])).2):=by
 unfold bf;rw [if_neg (not_not_intro h),if_pos h1]
theorem sd {rd:Rd} {root:aG} (h:(aR rd root).2.2=0) (h1:(bK (bG (aR rd root).2.1,[])).2.isNil=true) (h2:(br ((aR rd root).2.1,(bK (bG (aR rd root).2.1,[])).1)).2.isNil=false) :
  bf rd root=([],[],[],[],cg (br ((aR rd root).2.1,(bK (bG (aR rd root).2.1,[])).1)).2):=by
 unfold bf;rw [if_neg (not_not_intro h),if_neg (by rw [h1];decide),if_pos h2]
theorem p8 {rd:Rd} {root:aG} (h:(aR rd root).2.2=0) (h1:(bK (bG (aR rd root).2.1,[])).2.isNil=true) (h2:(br ((aR rd root).2.1,(bK (bG (aR rd root).2.1,[])).1)).2.isNil=true) :
  bf rd root=((aR rd root).1,(aR rd root).2.1,(bK (bG (aR rd root).2.1,[])).1,(br ((aR rd root).2.1,(bK (bG (aR rd root).2.1,[])).1)).1,0):=by
 unfold bf;rw [if_neg (not_not_intro h),if_neg (by rw [h1];decide),if_neg (by rw [h2];decide)]
structure GZ (rd:Rd) (root:aG) (ns:List aG) (os:List (D aA)) (bs:List Int) (ps:List Pt):Prop where
 e:aR rd root=(ns,os,0)
 sc:Scope rd root ns os
 eb:bK (bG os,[])=(bs, .nil)
 ea:br (os,bs)=(ps, .nil)
 bl:bs.length=os.length
 bi:gC bs
 pt:ps=gH os bs os 0
 one:∀k,k < os.length->∀t∈(nth aA os k).2.2.2.1,(bP os bs (k:Int) t).2.isNil=true
 Hb:∀i,i < ps.length->mE (bM os) (nth aT ps i)
theorem ue {e:aU} (h:e.isNil=true):e = .nil:=by cases e <;> first | rfl | cases h
theorem Scope.obj {rd:Rd} {root:aG} {ns:List aG} {os:List (D aA)} (ok:ft rd) (h:Scope rd root ns os) {i:Nat} (hi:i < os.length):eM (nth aA os i):=by
 have:=h.y9 i (by rw [<-h.len];exact hi)
 rw [this.2];exact qO ok this.1
theorem eM.A8 {o:D aA} (h:eM o):E2 o:=by
 refine ⟨by have:=h.t6;omega,fun i hi => ?_,fun i hi => ?_⟩
 ·have:=(h.sym hi).2;unfold jg at this;unfold Small;omega
 ·have:=h.tie hi
  have a:=this.a
  have w:=this.w
  unfold jg at a w
  unfold Small Word
  omega
theorem Scope.A8 {rd:Rd} {root:aG} {ns:List aG} {os:List (D aA)} (ok:ft rd) (h:Scope rd root ns os):cr os:=⟨by have:=h.le;have:=h.len;omega,fun _ hi=>(h.obj ok hi).A8⟩
theorem CE {a n:Int} (h:a<=n - 1):a < n:=by omega
theorem x9 {o:D aA} (h:bk o=0):cM o.2.1.length [] o.2.2.1=0/\eC o.2.1.length none o.2.2.2.1=0:=by
 unfold bk at h
 split at h
 ·cases h
 ·split at h
  ·rename_i h1;exact absurd h h1
  ·split at h
   ·rename_i h2;exact absurd h h2
   ·split at h
    ·rename_i h3;exact absurd h h3
    ·rename_i h3;exact ⟨Classical.byContradiction h3,h⟩
theorem A9 {o:D aA} (h:bk o=0) {t:D aJ} (ht:t∈o.2.2.2.1):0<=t.1/\t.1 < (o.2.1.length:Int):=by
 obtain ⟨p,hp⟩:=nB _ _ _ (x9 h).2 t ht
 obtain ⟨⟨a,b⟩,_⟩:=tV hp
 exact ⟨a,CE b⟩
theorem Scope.fault {rd:Rd} {root:aG} {ns:List aG} {os:List (D aA)} (ok:ft rd) (h:Scope rd root ns os) {i:Nat} (hi:i < os.length):bk (nth aA os i)=0:=by
 have:=h.y9 i (by rw [<-h.len];exact hi)
 rw [this.2];exact r8 (lg ok this.1).2
theorem wM {rd:Rd} (ok:ft rd) (root:aG):(∃f,0 < f/\bf rd root=([],[],[],[],f))\/(∃ns os bs ps,bf rd root=(ns,os,bs,ps,0)/\GZ rd root ns os bs ps):=by
 rcases p5 ok root with ⟨f,hf,e⟩ | ⟨ns,os,e,sc⟩
 ·exact .inl ⟨f,hf,by rw [o6 (by rw [e];simp only;omega),e]⟩
 ·have e0:(aR rd root).2.2=0:=by rw [e]
  have e1:(aR rd root).2.1=os:=by rw [e]
  have e2:(aR rd root).1=ns:=by rw [e]
  cases hb:(bK (bG os,[])).2.isNil with
  | false=>exact .inl ⟨_,wL (sb _) hb,by rw [o7 e0 (by rw [e1];exact hb),e1]⟩
  | true=>
   cases ha:(br (os,(bK (bG os,[])).1)).2.isNil with
   | false=>exact .inl ⟨_,wL (wo _) ha,by rw [sd e0 (by rw [e1];exact hb) (by rw [e1];exact ha),e1]⟩
   | true=>
    obtain ⟨a1,a2,a3,a4⟩:=lh ha
    refine .inr ⟨ns,os,_,_,by rw [p8 e0 (by rw [e1];exact hb) (by rw [e1];exact ha),e1,e2],e,sc,Prod.ext rfl (ue hb),Prod.ext rfl (ue ha),a1,a2,a3,a4,fun i hi => ?_⟩
    obtain ⟨k,t,hk,ht,hp⟩:=wK (by rw [<-a3];exact en (t:=aT) hi)
    rw [hp]
    have:=A9 (sc.fault ok hk) ht
    refine ⟨by simp only;omega,by simp only;rw [jl];omega,this.1,?_⟩
    simp only [Nat.zero_add]
    rw [show ((k:Int)).toNat=k from rfl,sa hk]
    exact this.2
def ef (ns:List aG) (bs:List Int) (w:Ws) (n:Nat):List (D eQ):=(List.range n).map fun i=>(nth .str ns i,nth (.int .i64) bs i,nth dn w i,())
theorem Ba (ns:List aG) (bs:List Int) (w:Ws) (n:Nat):(ef ns bs w n).length=n:=by simp [ef]
theorem p9 (ns:List aG) (bs:List Int) (w:Ws) (n:Nat):ef ns bs w (n + 1)=ef ns bs w n++[(nth .str ns n,nth (.int .i64) bs n,nth dn w n,())]:=by simp [ef,List.range_succ]
noncomputable def gj (ns:List aG) (bs:List Int) (os:List (D aA)) (ps:List Pt):List (D eQ) × aU:=
 if ¬ ns.length=os.length\/¬ bs.length=os.length then ([], .no 3)
 else if (dq (bM os,ps)).2.isNil=false then ([],(dq (bM os,ps)).2)
 else (ef ns bs (dq (bM os,ps)).1 os.length, .nil)
theorem se {ns:List aG} {bs:List Int} {os:List (D aA)} {ps:List Pt} (h:¬ ns.length=os.length\/¬ bs.length=os.length):gj ns bs os ps=([], .no 3):=by unfold gj;rw [if_pos h]
theorem Eh {ns:List aG} {bs:List Int} {os:List (D aA)} {ps:List Pt} (h:ns.length=os.length) (h':bs.length=os.length) (hp:(dq (bM os,ps)).2.isNil=false):gj ns bs os ps=([],(dq (bM os,ps)).2):=by
 unfold gj;rw [if_neg (by rintro (e | e);exact e h;exact e h'),if_pos hp]
theorem zF {ns:List aG} {bs:List Int} {os:List (D aA)} {ps:List Pt} (h:ns.length=os.length) (h':bs.length=os.length) (hp:(dq (bM os,ps)).2.isNil=true):gj ns bs os ps=(ef ns bs (dq (bM os,ps)).1 os.length, .nil):=by
 unfold gj;rw [if_neg (by rintro (e | e);exact e h;exact e h'),if_neg (by rw [hp];decide)]
theorem Ei (ns:List aG) (bs:List Int) (os:List (D aA)) (ps:List Pt):Told (gj ns bs os ps).2:=by
 unfold gj;split
 ·rfl
 ·split
  ·exact Eg _
  ·rfl
noncomputable def eS (rd:Rd) (root:aG):List (D eQ) × Int:=
 if ¬ (bf rd root).2.2.2.2=0 then ([],(bf rd root).2.2.2.2)
 else ((gj (bf rd root).1 (bf rd root).2.2.1 (bf rd root).2.1 (bf rd root).2.2.2.1).1,cg (gj (bf rd root).1 (bf rd root).2.2.1 (bf rd root).2.1 (bf rd root).2.2.2.1).2)
theorem Ej {rd:Rd} {root:aG} (h:¬ (bf rd root).2.2.2.2=0):eS rd root=([],(bf rd root).2.2.2.2):=by unfold eS;rw [if_pos h]
end Go.Mrl

namespace Go.Mrl
open Go.Vg
def G3 (p:D eQ) (a:Int):Prop:=(p.2.1:Int)<=a/\a < (p.2.1:Int) + (p.2.2.1.length:Int)
instance (p:D eQ) (a:Int):Decidable (G3 p a):=inferInstanceAs (Decidable (_/\_))
theorem CF {rd:Rd} (ok:ft rd) {root:aG} (h:(aR rd root).2.2=0):(aR rd root).2.1.length<=6:=by
 have:=(qP ok h).le;have:=(qP ok h).len;omega
theorem Bb {rd:Rd} (ok:ft rd) {root:aG} (h:(aR rd root).2.2=0):cr (aR rd root).2.1:=(qP ok h).A8 ok
theorem FD {l:List (D aA)} (h:l.length<=1000/\∀i,i < l.length->(nth aA l i).2.1.length<=1000) :
  (bM l).length<=100000/\∀i,i < (bM l).length->(nth dn (bM l) i).length<=100000000:=by
 refine ⟨by rw [jl];omega,fun i hi => ?_⟩
 rw [jl] at hi
 rw [sa hi];have:=h.2 i hi;omega
theorem Bc {rd:Rd} (ok:ft rd) {root:aG} {ns:List aG} {os:List (D aA)} (h:Scope rd root ns os):os.length<=1000/\∀i,i < os.length->(nth aA os i).2.1.length<=1000:=by
 refine ⟨by have:=h.le;have:=h.len;omega,fun i hi => ?_⟩
 exact Nat.le_trans (h.obj ok hi).GQ (by decide)
theorem wN {rd:Rd} (ok:ft rd) {root:aG} (h:(bf rd root).2.2.2.2=0) :
  (bf rd root).2.1.length<=1000/\∀i,i < (bf rd root).2.1.length->(nth aA (bf rd root).2.1 i).2.1.length<=1000:=by
 rcases wM ok root with ⟨f,hf,e⟩ | ⟨ns,os,bs,ps,e,hr⟩
 ·rw [e] at h;simp at h;omega
 ·rw [e];exact Bc ok hr.sc
theorem Ek {rd:Rd} {root:aG} (h:(bf rd root).2.2.2.2=0) :
  ((gj (bf rd root).1 (bf rd root).2.2.1 (bf rd root).2.1 (bf rd root).2.2.2.1).1,(gj (bf rd root).1 (bf rd root).2.2.1 (bf rd root).2.1 (bf rd root).2.2.2.1).2,()) =
   ((eS rd root).1,aY (eS rd root).2,()):=by
 unfold eS;rw [if_neg (not_not_intro h)]
 simp only [nF (Ei _ _ _ _)]
theorem uf {f:Int} (h:(aY f).isNil=false):¬ f=0:=fun e=>by rw [aZ.2 e] at h;cases h
theorem El (x:List (D aA) × List Int):aY (cg (br x).2)=(br x).2:=nF (wo x)
theorem qQ {α:Type} {l:List α} {i:Nat} (h:¬ i < l.length):l.take i=l:=List.take_of_length_le (by omega)
end Go.Mrl

namespace Go.Mrl
open Go.Vg
section
variable {o:D aA} {b:Bool} {w:List aG} {k:Nat}
end
theorem eT {k n:Nat} (h:(k:Int) < (n:Int)):(decide ((k:Int) < 3))=true ↔ ((k:Int) < (n:Int)/\(k:Int) < 3):=by
 rw [decide_eq_true_eq];omega
end Go.Mrl

namespace Go.Mrl
open Go.Vg
def E5 (e:D gU):Prop:=e.2.1.length < 1\/e.2.1.length > 6\/e.2.2.1.length > 36
instance (e:D gU):Decidable (E5 e):=by unfold E5;infer_instance
end Go.Mrl

namespace Go.Mrl
open Go.Vg
end Go.Mrl

namespace Go.Mrl
open Go.Vg
end Go.Mrl

namespace Go.Mrl
open Go.Vg
theorem CG {rd:Rd} {root:aG} {ns:List aG} {os:List (D aA)} {bs:List Int} {ps:List Pt} {w:Ws} (h:aR rd root=(ns,os,0)) (hb:bK (bG os,[])=(bs, .nil)) (ha:br (os,bs)=(ps, .nil))
  (hn:ns.length=os.length) (hl:bs.length=os.length) (hp:∀i,i < ps.length->mE (bM os) (nth aT ps i)) (hw:gG (bM os) ps=w):eS rd root=(ef ns bs w os.length,0):=by
 have e:bf rd root=(ns,os,bs,ps,0):=by
  unfold bf
  rw [h]
  simp only [hb,ha,aU.isNil]
  rfl
 unfold eS
 rw [e,if_neg (by simp)]
 have hq:dq (bM os,ps)=(w, .nil):=by rw [sP hp,hw]
 simp only
 rw [zF hn hl (by rw [hq];rfl),hq]
 rfl
def qR:aG:=[110,101,101,100,32,98,10,119,111,114,100,32,48,10,119,104,111,108,101,32,48,32,48,32,120,10]
def sY:aG:=[119,111,114,100,32,55,10,115,121,109,98,111,108,32,120,32,48,10]
abbrev gz:D aA:=([[98]],[0],[],[(0,2,0,[120],false,())],())
abbrev jI:D aA:=([],[7],[([120],0,false,())],[],())
theorem E6:bV qR=(gz,0):=by
 have i0:Lib.itoa 0 = [48]:=by rw [qH (by decide) (by decide)];rfl
 refine pG (by decide) (by decide) ?_
 simp only [cT,dr,gb,ga,iy,nA,lN,mb,cS,List.length_singleton,List.length_nil,List.take_succ_cons,List.take_zero,List.flatMap_cons,List.flatMap_nil,i0]
 decide
theorem E7:bV sY=(jI,0):=by
 have i7:Lib.itoa 7 = [55]:=by rw [qH (by decide) (by decide)];rfl
 have i0:Lib.itoa 0 = [48]:=by rw [qH (by decide) (by decide)];rfl
 refine pG (by decide) (by decide) ?_
 simp only [cT,dr,gb,ga,iy,lN,qI,cS,List.length_singleton,List.length_nil,List.take_succ_cons,List.take_zero,List.flatMap_cons,List.flatMap_nil,i7,i0]
 decide
def G4:mG:=(dY AH [97] qR).1
def sf:mG:=(dY G4 [98] sY).1
theorem Gt:bw sf [97]=(qR,1,0):=by decide
theorem Gu:bw sf [98]=(sY,2,0):=by decide
theorem GL:aR (bw sf) [97]=([[97],[98]],[gz,jI],0):=by
 have fa:bZ (bw sf) [97]=0:=by unfold bZ;rw [Gt];show (if (0:Int)=0 then (bV qR).2 else 0)=0;rw [E6];rfl
 have fb:bZ (bw sf) [98]=0:=by unfold bZ;rw [Gu];show (if (0:Int)=0 then (bV sY).2 else 0)=0;rw [E7];rfl
 have oa:ei (bw sf) [97]=gz:=by unfold ei;rw [Gt];show (bV qR).1=gz;rw [E6]
 have ob:ei (bw sf) [98]=jI:=by unfold ei;rw [Gu];show (bV sY).1=jI;rw [E7]
 have n0:nth .str [[97]] 0 = [97]:=rfl
 have n1:nth .str [[97],[98]] 1 = [98]:=rfl
 have a0:cj [[97]] gz.1 = [[97],[98]]:=by decide
 have a1:cj [[97],[98]] jI.1 = [[97],[98]]:=by decide
 unfold aR
 rw [gX,if_pos (by decide),n0,if_pos fa,oa,a0,gX,if_pos (by decide),n1,if_pos fb,ob,a1,gX,if_neg (by decide)]
 rfl
theorem FF:bo ([gz,jI],[120])=(1,0):=by
 refine kY (i:=1) (k:=0) ⟨⟨by decide,by decide,rfl,rfl⟩,?_⟩
 rintro i k (h | ⟨_,h⟩) ⟨_,h1,_,h2⟩
 ·obtain rfl:i=0:=by omega
  exact absurd (show k < 0 from h1) (Nat.not_lt_zero _)
 ·omega
theorem FG:eS (bw sf) [97]=([([97],0,[16],()),([98],16,[7],())],0):=by
 refine CG GL (bs:=[0,16]) (ps:=[(0,0,16,())]) (w:=[[16],[7]]) rfl ?_ rfl rfl ?_ rfl
 ·rw [mF rfl (by
   intro i hi
   have:i=0\/i=1:=by simp at hi;omega
   rcases this with rfl | rfl <;> simp [nth])]
  have h1:bP [gz,jI] [0,16] 0 (0,2,0,[120],false,())=(16, .nil):=by
   have ht:bL [gz,jI] [0,16] (0,2,0,[120],false,())=(16, .nil):=by
    unfold bL
    show (if 0<=(bo ([gz,jI],[120])).1 then (c7 [0,16] (bo ([gz,jI],[120])).1.toNat + (nth aF (nth aA [gz,jI] (bo ([gz,jI],[120])).1.toNat).2.2.1 (bo ([gz,jI],[120])).2.toNat).2.1,aU.nil) else _)=_
    rw [FF];rfl
   rw [iJ (by decide) (by rw [ht];rfl),ht]
   exact sR (by decide) rfl (by decide)
  simp [e9,e8,gw,h1,aU.isNil]
 ·intro i hi
  obtain rfl:i=0:=by simp at hi;omega
  unfold mE;decide
def CH:mG:=((0 + 1 + 1,()),(dH eL (dH eL [] [97] (qR,0 + 1,()) 0) [98] (sY,0 + 1 + 1,()) (gF eL [] [97] 0),gF eL (dH eL [] [97] (qR,0 + 1,()) 0) [98] (gF eL [] [97] 0),()),())
theorem GM:sf=CH:=rfl
theorem qS:eS (bw CH) [97]=([([97],0,[16],()),([98],16,[7],())],0):=by rw [<-GM];exact FG
end Go.Mrl

namespace Go.Vg
open Go
theorem ya {H:Type} {enc:TypeId × Value->H} {a:Assume} {C:Checked} {os:Os} {f:FuncId} {fn:Func} {s:ChangeSpec} {conds:List PathCond} {apart fresh handsOn again:Bool} {X:World->Array Value->Prop}
  (hX:∀(w w':World) (args:Array Value),w.heap=w'.heap->X w args->X w' args)
  (own:ownKnob C.prog.godebug=none) (started:os.Started) (noInit:C.prog.inits.idxOf? f=none) (hfn:C.prog.funcs[f]?=some fn)
  (witness:∃(w:World) (tape:Tape) (i:Input),w.os=os/\(w.forCall tape i).Shaped C.prog/\i.vars = []/\Input.okWide C.prog (w.forCall tape i) .any w.heap.size f i/\
   ((s.pre enc C.prog fn conds apart (w.forCall tape i).memory i.args/\X (w.forCall tape i).memory i.args)/\sizedMet enc C.prog fn (OpenSpec.ofChange s) apart (w.forCall tape i).memory i.args)/\a.holds C.prog (lone (Frame.enter C.prog f i.args .normal) [] (w.forCall tape i)))
  (contract:∀(W:World) (base:Nat) (args:Array Value) (ds gs:List (DataW H)) (before:List MemPlace),
   (∀(j:Nat) t v,fn.params[j]?=some t->args[j]?=some v->Value.okWide C.prog W .any base t v)->
   DataW.Whole enc C.prog fn.params.toList s.vars apart W args.toList ds gs before->
   X W args->W.ShapedOpen C.prog->
   Calls C.prog f args W fun e W'=>∃v,e = .returned v/\s.post enc C.prog fn apart fresh handsOn again W args v W') :
  ReturnsInHanded a C os f .any (fun w args=>(s.pre enc C.prog fn conds apart w args/\X w args)/\sizedMet enc C.prog fn (OpenSpec.ofChange s) apart w args) (s.post enc C.prog fn apart fresh handsOn again):=by
 refine returnsInHanded_of_calls own started noInit witness ?_
 intro w tape i _ hsh _ hok hpre hholds
 obtain ⟨_,_,_,fn',hfn',_,_,_,_,hval⟩:=hok
 have e:fn'=fn:=Option.some.inj (hfn'.symm.trans hfn)
 subst e
 obtain ⟨⟨⟨ds,gs,before,hw,hc⟩,hx⟩,hz⟩:=hpre
 have hw':=DataW.Whole.of_heap (w':=w.forCall tape i) (by rfl) hw
 refine (contract (w.forCall tape i) w.heap.size i.args ds gs before hval hw' (hX _ _ _ (by rfl) hx) hsh).mono fun e W' ⟨v,he,hp⟩ => ?_
 subst he
 exact ChangeSpec.post_blind hp
theorem wO {P:Program} {w:World} {g:Nat} {t:TypeId} {zero:Array Value} (h:w.ShapedOpen P) (hg:g < P.globals.size)
  (h0:((begin P (fun _ _=>0) default).world.heap[g]?).bind Obj.row?=some (zero,t)) (hz:zero.size=1)
  (hb:P.buildable t=true) (hc:P.cellTypes P.depth t=some [t]) (hu:P.underlying t=some (.int .i64)):∃m,w.cell? ⟨g,0,none⟩=some (.int .i64 m):=by
 obtain ⟨cs,hh,hs,hr⟩:=h.1 g zero t hg h0
 obtain ⟨ts,hts,_,hall⟩:=hr hb
 rw [hc] at hts
 cases hts
 have h1:0 < cs.size:=by omega
 obtain ⟨u,hu',hok⟩:=hall 0 cs[0] (by simp [h1])
 have:u=t:=by simpa using hu'.symm
 subst this
 have hcell:w.cell? ⟨g,0,none⟩=some cs[0]:=by simp [World.cell?,hh,h1]
 rw [hcell]
 unfold Cell.ok at hok
 rw [hu] at hok
 cases hv:cs[0] <;> rw [hv] at hok <;> first | exact hok.elim | (obtain ⟨rfl,_⟩:=hok;exact ⟨_,rfl⟩) | simp at hok
def E8:Option TypeDesc->Bool
 | some (.interface _)=>true
 | _=>false
theorem mI {P:Program} {W:World} {name nm:String} {d:DataW Unit} {g:Nat} {t:TypeId}
  (hg:P.globalNamed name=some g) (hty:(P.globals[g]?).map (·.type)=some t) (hi:E8 (P.underlying t)=true)
  (h:Lib.VarReads P W name (.iface nm d)):∃ev,W.cell? ⟨g,0,none⟩=some ev/\(ev = .nilIface\/∃te pe,ev = .iface te pe):=by
 obtain ⟨g',t',cs,fuel,p,hg',ht',hvar,hd⟩:=h
 obtain rfl:=Option.some.inj (hg.symm.trans hg')
 obtain rfl:=Option.some.inj (hty.symm.trans ht')
 have hc:=World.var?_cell hg hvar 0
 obtain ⟨ms,hu⟩:∃ms,P.underlying t=some (.interface ms):=by
  unfold E8 at hi
  split at hi
  ·rename_i ms hm;exact ⟨ms,hm⟩
  ·cases hi
 cases fuel with
 | zero=>simp [DataW.trod] at hd
 | succ n=>
  cases hl:cs.toList with
  | nil=>rw [hl] at hd;simp [DataW.trod,hu] at hd
  | cons v r=>
   have h0:cs[0]?=some v:=by rw [<-Array.getElem?_toList,hl];rfl
   rw [h0] at hc
   refine ⟨v,hc,?_⟩
   rw [hl] at hd
   cases v <;> first | exact .inl rfl | exact .inr ⟨_,_,rfl⟩ | (simp [DataW.trod,hu] at hd)
theorem wP {P:Program} {W:World} {name:String} {k:IntKind} {zs:List Int} {g:Nat} {t e:TypeId} {n:Nat}
  (hg:P.globalNamed name=some g) (hty:(P.globals[g]?).map (·.type)=some t) (ht:P.underlying t=some (.array n e)) (he:P.underlying e=some (.int k)) (hce:P.cellsOf e=1) (hct:P.cellsOf t=n)
  (h:Lib.VarReads P W name (Lib.tabData k zs)):Lib.TabIs P W name k zs:=by
 obtain ⟨g',t',cs,fuel,p,hg',ht',hvar,hd⟩:=h
 obtain rfl:=Option.some.inj (hg.symm.trans hg')
 obtain rfl:=Option.some.inj (hty.symm.trans ht')
 unfold Lib.TabIs
 rw [hvar,<-Lib.cells_of_tab ht he hce hct hd]
end Go.Vg

namespace Go.Mrl
open Go.Vg
end Go.Mrl

namespace Go.Mrl
open Go.Vg
end Go.Mrl

namespace Go.Mrl
open Go.Vg
end Go.Mrl

namespace Go.Mrl
open Go.Vg
end Go.Mrl

namespace Go.Mrl
open Go.Vg
end Go.Mrl

namespace Go.Mrl
open Go.Vg
theorem ug {b:List Int} {i n:Int} {t:D aJ} (h:(cR b i t n).2.isNil=true):(-2147483648:Int)<=(cR b i t n).1/\(cR b i t n).1<=(2147483647:Int):=by
 unfold cR at h ⊢
 split
 ·rename_i hk
  rw [if_pos hk] at h
  split
  ·exact ⟨by decide,by decide⟩
  ·rename_i h1
   exact ⟨by show (-2147483648:Int)<=n - (c7 b i.toNat + t.1);omega,by show n - (c7 b i.toNat + t.1)<=(2147483647:Int);omega⟩
 ·split
  ·exact ⟨by decide,by decide⟩
  ·rename_i h1
   exact ⟨by show (-2147483648:Int)<=n;omega,by show n<=(2147483647:Int);omega⟩
theorem Em {l:List (D aA)} {b:List Int} {i:Int} {t:D aJ} (h:(bP l b i t).2.isNil=true):(-2147483648:Int)<=(bP l b i t).1/\(bP l b i t).1<=(2147483647:Int):=by
 unfold bP at h ⊢
 split
 ·rename_i hk;rw [if_pos hk] at h;exact ug h
 ·rename_i hk
  rw [if_neg hk] at h
  split
  ·rename_i h1;rw [if_pos h1] at h;exact ug h
  ·exact ⟨show (-2147483648:Int)<=0 by decide,show (0:Int)<=2147483647 by decide⟩
end Go.Mrl

namespace Go.Mrl
open Go.Vg
end Go.Mrl

namespace Go.Mrl
open Go.Vg
end Go.Mrl

namespace Go.Mrl
open Go.Vg
def pH (l:List (D aA)) (t:D aJ):Prop:=¬ t.2.1=(1:Int)/\(bo (l,t.2.2.2.1)).1 < 0/\t.2.2.2.2.1=false
theorem o8 (b:List Int) (i n:Int) (t:D aJ):(cR b i t n).2 = .nil\/(cR b i t n).2 = .no 7:=by
 unfold cR;split <;> split <;> first | exact .inl rfl | exact .inr rfl
theorem En {l:List (D aA)} {b:List Int} {i:Int} {t:D aJ}:((bP l b i t).2 = .nil/\¬ pH l t)\/((bP l b i t).2 = .no 6/\pH l t)\/(bP l b i t).2 = .no 7:=by
 by_cases hk:t.2.1=(1:Int)
 ·rw [nz hk]
  rcases o8 b i (nth (.int .i64) b i.toNat + t.2.2.1) t with h | h
  ·exact .inl ⟨h,fun e=>e.1 hk⟩
  ·exact .inr (.inr h)
 ·by_cases hf:(bo (l,t.2.2.2.1)).1 < 0
  ·cases hw:t.2.2.2.2.1 with
   | false=>
    have ht:=je (b:=b) hf hw
    rw [sQ hk (by rw [ht];rfl),ht]
    exact .inr (.inl ⟨rfl,hk,hf,hw⟩)
   | true=>
    have ht:=jU (b:=b) hf hw
    rw [iJ hk (by rw [ht];rfl)]
    rcases o8 b i ((bL l b t).1 + t.2.2.1) t with h | h
    ·exact .inl ⟨h,fun e=>by have:=e.2.2;rw [hw] at this;cases this⟩
    ·exact .inr (.inr h)
  ·have ht:=jd (l:=l) (b:=b) (t:=t) (by omega)
   rw [iJ hk (by rw [ht];rfl)]
   rcases o8 b i ((bL l b t).1 + t.2.2.1) t with h | h
   ·exact .inl ⟨h,fun e=>hf e.2.1⟩
   ·exact .inr (.inr h)
theorem wQ {l:List (D aA)} {b:List Int} {i:Nat}:∀{ts:List (D aJ)} {out:List Pt},
  ((e8 l b i ts out).2 = .nil/\∀t∈ts,¬ pH l t)\/((e8 l b i ts out).2 = .no 6/\∃t∈ts,pH l t)\/(e8 l b i ts out).2 = .no 7
 | [],out => .inl ⟨rfl,fun t h=>by simp at h⟩
 | t :: r,out=>by
  unfold e8
  rcases En (l:=l) (b:=b) (i:=(i:Int)) (t:=t) with ⟨h,hl⟩ | ⟨h,hl⟩ | h
  ·rw [if_pos (by rw [h];rfl)]
   rcases wQ (l:=l) (b:=b) (i:=i) (ts:=r) (out:=out++[((i:Int),t.1,(bP l b i t).1,())]) with ⟨k,kl⟩ | ⟨k,t',ht,kl⟩ | k
   ·exact .inl ⟨k,fun t' ht'=>by rcases List.mem_cons.1 ht' with rfl | h';exact hl;exact kl _ h'⟩
   ·exact .inr (.inl ⟨k,t',by simp [ht],kl⟩)
   ·exact .inr (.inr k)
  ·rw [if_neg (by rw [h];decide)];exact .inr (.inl ⟨h,t,by simp,hl⟩)
  ·rw [if_neg (by rw [h];decide)];exact .inr (.inr h)
theorem nG {l:List (D aA)} {b:List Int}:∀{os:List (D aA)} {i:Nat} {out:List Pt},
  ((e9 l b os i out).2 = .nil/\∀o∈os,∀t∈o.2.2.2.1,¬ pH l t)\/((e9 l b os i out).2 = .no 6/\∃o∈os,∃t∈o.2.2.2.1,pH l t)\/(e9 l b os i out).2 = .no 7
 | [],i,out => .inl ⟨rfl,fun o h=>by simp at h⟩
 | o :: r,i,out=>by
  unfold e9 gw
  rcases wQ (l:=l) (b:=b) (i:=i) (ts:=o.2.2.2.1) (out:=out) with ⟨h,hl⟩ | ⟨h,t,ht,hl⟩ | h
  ·rw [if_pos (by rw [h];rfl)]
   rcases nG (l:=l) (b:=b) (os:=r) (i:=i + 1) (out:=(e8 l b i o.2.2.2.1 out).1) with ⟨k,kl⟩ | ⟨k,o',ho,t',ht,kl⟩ | k
   ·exact .inl ⟨k,fun o' ho'=>by rcases List.mem_cons.1 ho' with rfl | h';exact hl;exact kl _ h'⟩
   ·exact .inr (.inl ⟨k,o',by simp [ho],t',ht,kl⟩)
   ·exact .inr (.inr k)
  ·rw [if_neg (by rw [h];decide)];exact .inr (.inl ⟨h,o,by simp,t,ht,hl⟩)
  ·rw [if_neg (by rw [h];decide)];exact .inr (.inr h)
theorem CI {l:List (D aA)} {b m:List Int} (hb:b.length=l.length) (hm:m.length=l.length) (ib:gC b) (im:gC m) :
  cg (br (l,b)).2=cg (br (l,m)).2\/cg (br (l,b)).2=7\/cg (br (l,m)).2=7:=by
 rw [mF hb ib,mF hm im]
 rcases nG (l:=l) (b:=b) (os:=l) (i:=0) (out:=[]) with ⟨h,hl⟩ | ⟨h,o,ho,t,ht,hl⟩ | h
 ·rcases nG (l:=l) (b:=m) (os:=l) (i:=0) (out:=[]) with ⟨k,kl⟩ | ⟨k,o',ho',t',ht',kl⟩ | k
  ·exact .inl (by rw [h,k])
  ·exact absurd kl (hl o' ho' t' ht')
  ·exact .inr (.inr (by rw [k];rfl))
 ·rcases nG (l:=l) (b:=m) (os:=l) (i:=0) (out:=[]) with ⟨k,kl⟩ | ⟨k,o',ho',t',ht',kl⟩ | k
  ·exact absurd hl (kl o ho t ht)
  ·exact .inl (by rw [h,k])
  ·exact .inr (.inr (by rw [k];rfl))
 ·exact .inr (.inl (by rw [h];rfl))
def cN (l:List (D aA)):Nat->Nat
 | 0=>0
 | i + 1=>cN l i + (nth aA l i).2.2.2.1.length
theorem o9 (o:D aA) (r:List (D aA)):∀i,cN (o :: r) (i + 1)=o.2.2.2.1.length + cN r i
 | 0=>by show 0 + _=_ + 0;rw [Nat.zero_add,Nat.add_zero];rfl
 | i + 1=>by
  have h:=o9 o r i
  show cN (o :: r) (i + 1) + (nth aA (o :: r) (i + 1)).2.2.2.1.length=_
  rw [h,Nat.add_assoc];rfl
theorem sg {l:List (D aA)} {b:List Int}:∀{os:List (D aA)} {i:Nat},(gH l b os i).length=cN os os.length
 | [],i=>rfl
 | o :: r,i=>by
  show (jm l b i o.2.2.2.1++gH l b r (i + 1)).length=cN (o :: r) (r.length + 1)
  rw [List.length_append,sg,o9]
  simp [jm]
theorem zG {l:List (D aA)} {b:List Int}:∀{os:List (D aA)} {s i k:Nat},i < os.length->k < (nth aA os i).2.2.2.1.length->
  cN os i + k < (gH l b os s).length/\nth aT (gH l b os s) (cN os i + k)=(((s + i:Nat):Int),(nth aJ (nth aA os i).2.2.2.1 k).1,(bP l b ((s + i:Nat):Int) (nth aJ (nth aA os i).2.2.2.1 k)).1,())
 | [],s,i,k,hi,_=>absurd hi (Nat.not_lt_zero _)
 | o :: r,s,0,k,hi,hk=>by
  have hk:k < o.2.2.2.1.length:=hk
  have hl:(jm l b s o.2.2.2.1).length=o.2.2.2.1.length:=by simp [jm]
  have e0:cN (o :: r) 0 + k=k:=Nat.zero_add k
  rw [e0]
  show k < (jm l b s o.2.2.2.1++gH l b r (s + 1)).length/\nth aT (jm l b s o.2.2.2.1++gH l b r (s + 1)) k=_
  refine ⟨by rw [List.length_append];omega,?_⟩
  rw [o5 (t:=aT) (by omega)]
  exact sX (t:=aT) (u:=aJ) hk
 | o :: r,s,i + 1,k,hi,hk=>by
  have hi:i < r.length:=by simp at hi;omega
  have hk:k < (nth aA r i).2.2.2.1.length:=hk
  obtain ⟨h1,h2⟩:=zG (l:=l) (b:=b) (os:=r) (s:=s + 1) hi hk
  have hl:(jm l b s o.2.2.2.1).length=o.2.2.2.1.length:=by simp [jm]
  rw [o9,Nat.add_assoc]
  show o.2.2.2.1.length + (cN r i + k) < (jm l b s o.2.2.2.1++gH l b r (s + 1)).length/\nth aT (jm l b s o.2.2.2.1++gH l b r (s + 1)) (o.2.2.2.1.length + (cN r i + k))=_
  refine ⟨by rw [List.length_append];omega,?_⟩
  rw [kC (t:=aT),if_neg (by omega),hl,show o.2.2.2.1.length + (cN r i + k) - o.2.2.2.1.length=cN r i + k by omega,h2]
  rw [show s + 1 + i=s + (i + 1) by omega]
  rfl
theorem CJ {l:List (D aA)} {b:List Int} (h:(br (l,b)).2.isNil=true) {i k:Nat} (hi:i < l.length) (hk:k < (nth aA l i).2.2.2.1.length) :
  cN l i + k < (br (l,b)).1.length/\nth aT (br (l,b)).1 (cN l i + k)=((i:Int),(nth aJ (nth aA l i).2.2.2.1 k).1,(bP l b (i:Int) (nth aJ (nth aA l i).2.2.2.1 k)).1,()):=by
 rw [(lh h).2.2.1]
 have:=zG (l:=l) (b:=b) (os:=l) (s:=0) hi hk
 rw [Nat.zero_add] at this
 exact this
theorem pa {l:List (D aA)} {b:List Int} (h:(br (l,b)).2.isNil=true):(br (l,b)).1.length=cN l l.length:=by
 rw [(lh h).2.2.1,sg]
theorem wR {b:List Int} {i n:Int} {t:D aJ} (h:(cR b i t n).2.isNil=true):(cR b i t n).1=n - (if t.2.1=(3:Int) then c7 b i.toNat + t.1 else 0):=by
 unfold cR at h ⊢
 by_cases hk:t.2.1=(3:Int)
 ·rw [if_pos hk] at h ⊢
  rw [if_pos hk]
  split
  ·rename_i h1;rw [if_pos h1] at h;cases h
  ·rfl
 ·rw [if_neg hk] at h ⊢
  rw [if_neg hk]
  split
  ·rename_i h1;rw [if_pos h1] at h;cases h
  ·show n=n - 0;omega
theorem zH {l:List (D aA)} {b:List Int} {i:Int} {t:D aJ} (h:(bP l b i t).2.isNil=true) :
  (bP l b i t).1=(if t.2.1=(1:Int) then c7 b i.toNat + t.2.2.1 else (bL l b t).1 + t.2.2.1) - (if t.2.1=(3:Int) then c7 b i.toNat + t.1 else 0):=by
 by_cases hk:t.2.1=(1:Int)
 ·have e:=nz (l:=l) (b:=b) (i:=i) hk
  rw [e] at h ⊢
  rw [if_pos hk];exact wR h
 ·rw [if_neg hk]
  cases ht:(bL l b t).2.isNil with
  | true=>
   have e:=iJ (i:=i) hk ht
   rw [e] at h ⊢
   exact wR h
  | false=>
   have e:=sQ (i:=i) hk ht
   rw [e] at h
   rw [ht] at h;cases h
noncomputable def jn (l:List (D aA)) (d:Int) (t:D aJ):Int:=(if t.2.1=(3:Int) then 0 else d) - (if ¬ t.2.1=(1:Int)/\(bo (l,t.2.2.2.1)).1 < 0 then d else 0)
theorem CK {l:List (D aA)} {b m:List Int} {d:Int} (hb:b.length=l.length) (hm:∀j,j < l.length->c7 m j=c7 b j + d) {i:Nat} (hi:i < l.length) {t:D aJ}
  (h1:(bP l b (i:Int) t).2.isNil=true) (h2:(bP l m (i:Int) t).2.isNil=true):(bP l m (i:Int) t).1=(bP l b (i:Int) t).1 + jn l d t:=by
 have e1:=zH h1
 have e2:=zH h2
 have hi':=hm i hi
 rw [Int.toNat_natCast] at e1 e2
 rw [e1,e2,hi']
 unfold jn
 have key:∀x y z w u v:Int,x - y=z - w + (u - v)->x - y=z - w + (u - v):=fun _ _ _ _ _ _ h=>h
 by_cases hk:t.2.1=(1:Int)
 ·have hk3:¬ t.2.1=(3:Int):=fun e=>by rw [hk] at e;exact absurd e (by decide)
  rw [if_pos hk,if_pos hk,if_neg hk3,if_neg hk3,if_neg hk3,if_neg (fun e=>e.1 hk)]
  have:∀a c:Int,a + d + c - 0=a + c - 0 + (d - 0):=by intros;omega
  exact this _ _
 ·rw [if_neg hk,if_neg hk]
  by_cases hf:(bo (l,t.2.2.2.1)).1 < 0
  ·rw [if_pos (c:=¬ t.2.1=(1:Int)/\(bo (l,t.2.2.2.1)).1 < 0) ⟨hk,hf⟩]
   have ht:∀b',(bL l b' t).1=0:=by
    intro b'
    cases hw:t.2.2.2.2.1 with
    | true=>rw [jU hf hw]
    | false=>rw [je hf hw]
   rw [ht,ht]
   by_cases hk3:t.2.1=(3:Int)
   ·rw [if_pos hk3,if_pos hk3,if_pos hk3]
    have:∀a c p:Int,0 + c - (a + d + p)=0 + c - (a + p) + (0 - d):=by intros;omega
    exact this _ _ _
   ·rw [if_neg hk3,if_neg hk3,if_neg hk3]
    have:∀c:Int,0 + c - 0=0 + c - 0 + (d - d):=by intros;omega
    exact this _
  ·rw [if_neg (c:=¬ t.2.1=(1:Int)/\(bo (l,t.2.2.2.1)).1 < 0) (fun e=>hf e.2)]
   have hfi:=mC (l:=l) (s:=t.2.2.2.1) (by omega)
   have ht1:=jd (l:=l) (b:=b) (t:=t) (by omega)
   have ht2:=jd (l:=l) (b:=m) (t:=t) (by omega)
   have hb2:=hm (bo (l,t.2.2.2.1)).1.toNat (by omega)
   unfold c7 at hb2
   rw [ht1,ht2]
   simp only
   rw [hb2]
   by_cases hk3:t.2.1=(3:Int)
   ·rw [if_pos hk3,if_pos hk3,if_pos hk3]
    have:∀x y a c p:Int,x + d + y + c - (a + d + p)=x + y + c - (a + p) + (0 - 0):=by intros;omega
    exact this _ _ _ _ _
   ·rw [if_neg hk3,if_neg hk3,if_neg hk3]
    have:∀x y c:Int,x + d + y + c - 0=x + y + c - 0 + (d - 0):=by intros;omega
    exact this _ _ _
end Go.Mrl

namespace Go.Mrl
open Go.Vg
theorem CL {l:List (D aA)} (h:iH l) (hf:∀j,j < l.length->bk (nth aA l j)=0):cr l:=⟨h.1,fun i hi=>(gf (hf i hi)).A8⟩
def ct (b:List Int) (d:Int):List Int:=b.map fun x=>x + d
theorem nH (b:List Int) (d:Int):(ct b d).length=b.length:=by simp [ct]
theorem yb {b:List Int} {d:Int} {i:Nat} (h:i < b.length):ct (b.take i) d++[nth (.int .i64) b i + d]=ct (b.take (i + 1)) d:=by rw [ke (t:=.int .i64) h];simp [ct]
theorem uh {b:List Int} {d:Int} {i:Nat} (h:i < b.length):c7 (ct b d) i=c7 b i + d:=sX (t:=.int .i64) (u:=.int .i64) h
theorem wS {b:List Int} {d:Int} {n:Nat} (hd:0<=d) (hx:¬ n < b.length) (h:∀j,j < n->(0:Int)<=nth (.int .i64) b j/\nth (.int .i64) b j + d<=(256:Int)):gC b/\gC (ct (b.take n) d):=by
 rw [qQ hx]
 have key:∀x:Int,0<=x->x + d<=256->x<=256:=by intros;omega
 have key2:∀x:Int,0<=x->0<=x + d:=by intros;omega
 constructor
 ·intro i hi
  have k:=h i (by omega)
  exact ⟨k.1,key _ k.1 k.2⟩
 ·intro i hi
  rw [nH] at hi
  have k:=h i (by omega)
  have e:(nth (.int .i64) (ct b d) i:Int)=nth (.int .i64) b i + d:=uh hi
  rw [e]
  exact ⟨key2 _ k.1,k.2⟩
theorem CM {b:List Int} {d:Int} {n:Nat} (hx:¬ n < b.length):(ct (b.take n) d).length=b.length:=by rw [qQ hx,nH]
theorem iz {l:List (D aA)} {b:List Int} {d:Int} {n:Nat} (hb:b.length=l.length) (hx:¬ n < b.length) (h1:(br (l,b)).2.isNil=true) (h2:(br (l,ct (b.take n) d)).2.isNil=true)
  {i k j:Nat} (hi:i < l.length) (hk:k < (nth aA l i).2.2.2.1.length) (hj:j=cN l i + k) :
  j < (br (l,b)).1.length/\j < (br (l,ct (b.take n) d)).1.length/\
  (nth aT (br (l,b)).1 j).1=(i:Int)/\(nth aT (br (l,b)).1 j).2.1=(nth aJ (nth aA l i).2.2.2.1 k).1/\
  (nth aT (br (l,ct (b.take n) d)).1 j).1=(i:Int)/\(nth aT (br (l,ct (b.take n) d)).1 j).2.1=(nth aJ (nth aA l i).2.2.2.1 k).1/\
  (nth aT (br (l,ct (b.take n) d)).1 j).2.2.1=IntKind.wrap .i64 ((nth aT (br (l,b)).1 j).2.2.1 + jn l d (nth aJ (nth aA l i).2.2.2.1 k)):=by
 obtain ⟨a1,a2⟩:=CJ h1 hi hk
 obtain ⟨c1,c2⟩:=CJ h2 hi hk
 have ht:nth aJ (nth aA l i).2.2.2.1 k∈(nth aA l i).2.2.2.1:=en (t:=aJ) hk
 have n1:=(lh h1).2.2.2 i hi _ ht
 have n2:=(lh h2).2.2.2 i hi _ ht
 have e:=CK (d:=d) hb (fun j hj=>by rw [qQ hx];exact uh (by omega)) hi n1 n2
 have hw:=Em n2
 subst hj
 rw [a2,c2]
 refine ⟨a1,c1,rfl,rfl,rfl,rfl,?_⟩
 show (bP l (ct (b.take n) d) (i:Int) (nth aJ (nth aA l i).2.2.2.1 k)).1=IntKind.wrap .i64 ((bP l b (i:Int) (nth aJ (nth aA l i).2.2.2.1 k)).1 + jn l d (nth aJ (nth aA l i).2.2.2.1 k))
 rw [<-e,dX (by omega) (by omega)]
theorem Eo {x d:Int} (h1:0<=x) (h2:x<=256) (h3:0<=d) (h4:d<=256):IntKind.wrap .i64 (x + d)=x + d:=dX (by omega) (by omega)
end Go.Mrl

