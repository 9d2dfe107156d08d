/- A part of the proof that the law ShelfSaysCard holds of the given program: facts that are used there. -/
import Derived.Test.YtgokjhhcfemnhaaGreatDoorPart2
import Derived.RangeFuncWrites
import Derived.RangeFuncCalls
import Derived.OrdersIn
import Derived.TacticsIn
import Derived.RangeFuncBox
import Derived.Handed
import Derived.Clock
import Derived.Lib.LaidTab
import Derived.Lib.LaidU8
import Derived.Lay
set_option linter.unusedSimpArgs false
set_option linter.unusedVariables false
namespace Go.Mrl
open Go.Vg
def hH (p:D ai):aj:=[32]++p.1++[32]++Lib.itoa p.2.1++[32]++Lib.itoa p.2.2.1
def hU (p:D aq):aj:=[32]++Lib.itoa p.1++[32]++Lib.itoa p.2.1++[32]++Lib.itoa p.2.2.1
def pk (e:D af):aj:=e.1++[32]++Lib.itoa (e.2.1.length:Int)++[32]++Lib.itoa (e.2.2.1.length:Int)
def dS (e:D af) (i:Nat):aj:=pk e++(e.2.1.take i).flatMap hH
def dM (e:D af) (i:Nat):aj:=dS e e.2.1.length++(e.2.2.1.take i).flatMap hU
def lS (e:D af):aj:=dM e e.2.2.1.length
def cy (e:D af):aj:=lS e++[10]
def bq (e:D af):aj × aF:=if ay e≠0 then ([],au (ay e)) else (cy e, .nil)
theorem D2 (e:D af):dS e 0=pk e:=by unfold dS;simp
theorem D3 (e:D af):dM e 0=dS e e.2.1.length:=by unfold dM;simp
theorem D4 {e:D af} {i:Nat} (h:i < e.2.1.length):dS e (i + 1)=dS e i++hH (nth ai e.2.1 i):=by
 unfold dS;rw [fW (t:=ai) h];simp
theorem D5 {e:D af} {i:Nat} (h:i < e.2.2.1.length):dM e (i + 1)=dM e i++hU (nth aq e.2.2.1 i):=by
 unfold dM;rw [fW (t:=aq) h];simp
structure fo (e:D af):Prop where
 nm:Nm e.1
 p1:1<=e.2.1.length
 p6:e.2.1.length<=6
 xf:e.2.2.1.length<=36
 parts:∀i,i < e.2.1.length->Nm (nth ai e.2.1 i).1/\dP 1 1000000 (nth ai e.2.1 i).2.1/\dP 0 255 (nth ai e.2.1 i).2.2.1
 z1:∀i,i < e.2.2.1.length->dP 0 5 (nth aq e.2.2.1 i).1/\dP 0 39 (nth aq e.2.2.1 i).2.1/\dP (-2147483648) 2147483647 (nth aq e.2.2.1 i).2.2.1
theorem uS {n:Nat} {p:Pt} (h:¬ bx n p=0):bx n p=1:=by
 unfold bx at h ⊢
 split
 ·rfl
 ·rename_i hh;rw [if_neg hh] at h;exact absurd rfl h
theorem gq {e:D af} (h:ay e=0):fo e:=by
 have h0:ao e.1=0:=by
  apply Classical.byContradiction;intro hn
  have:=dI e.1
  rw [nH (by omega)] at h;exact hn h
 have h1:¬ lR e:=by
  intro hm;rw [fk (by omega) hm] at h;cases h
 have h2:∀i,(∀j,j < i->j < e.2.1.length->bJ (nth ai e.2.1 j)=0)/\(i < e.2.1.length->bJ (nth ai e.2.1 i)=0):=by
  intro i
  induction i with
  | zero=>
   refine ⟨fun j hj=>by omega,fun hi => ?_⟩
   apply Classical.byContradiction;intro hn
   rw [b5 (i:=0) (by omega) h1 (fun j hj=>by omega) hi rfl hn] at h;exact hn h
  | succ i ih=>
   have hs:∀j,j < i + 1->j < e.2.1.length->bJ (nth ai e.2.1 j)=0:=fun j hj hl=>by
    rcases Nat.lt_or_ge j i with hh | hh
    ·exact ih.1 j hh hl
    ·obtain rfl:j=i:=by omega
     exact ih.2 hl
   refine ⟨hs,fun hi => ?_⟩
   apply Classical.byContradiction;intro hn
   rw [b5 (i:=i + 1) (by omega) h1 (fun j hj=>hs j hj (by omega)) hi rfl hn] at h;exact hn h
 have h2':∀i,i < e.2.1.length->bJ (nth ai e.2.1 i)=0:=fun i=>(h2 i).2
 have h3:∀i,(∀j,j < i->j < e.2.2.1.length->bx e.2.1.length (nth aq e.2.2.1 j)=0)/\(i < e.2.2.1.length->bx e.2.1.length (nth aq e.2.2.1 i)=0):=by
  intro i
  induction i with
  | zero=>
   refine ⟨fun j hj=>by omega,fun hi => ?_⟩
   apply Classical.byContradiction;intro hn
   rw [cm (i:=0) (by omega) h1 h2' (fun j hj=>by omega) hi (uS hn)] at h;cases h
  | succ i ih=>
   have hs:∀j,j < i + 1->j < e.2.2.1.length->bx e.2.1.length (nth aq e.2.2.1 j)=0:=fun j hj hl=>by
    rcases Nat.lt_or_ge j i with hh | hh
    ·exact ih.1 j hh hl
    ·obtain rfl:j=i:=by omega
     exact ih.2 hl
   refine ⟨hs,fun hi => ?_⟩
   apply Classical.byContradiction;intro hn
   rw [cm (i:=i + 1) (by omega) h1 h2' (fun j hj=>hs j hj (by omega)) hi (uS hn)] at h;cases h
 have p1:1<=e.2.1.length:=Nat.not_lt.1 fun k=>h1 (.inl k)
 have p6:e.2.1.length<=6:=Nat.not_lt.1 fun k=>h1 (.inr (.inl k))
 refine ⟨uN h0,p1,p6,Nat.not_lt.1 fun k=>h1 (.inr (.inr k)),fun i hi => ?_,fun i hi => ?_⟩
 ·have k:=h2' i hi
  unfold bJ at k
  split at k
  ·rename_i hn;omega
  ·rename_i hn
   split at k
   ·cases k
   ·rename_i hb
    have:=dI (nth ai e.2.1 i).1
    exact ⟨uN (by omega),⟨Int.not_lt.1 fun k=>hb (.inl k),Int.not_lt.1 fun k=>hb (.inr (.inl k))⟩,⟨Int.not_lt.1 fun k=>hb (.inr (.inr (.inl k))),Int.not_lt.1 fun k=>hb (.inr (.inr (.inr (.inl k))))⟩⟩
 ·have k:=(h3 i).2 hi
  unfold bx at k
  split at k
  ·cases k
  ·rename_i hb
   have hw:dy (nth aq e.2.2.1 i).2.2.1=true:=by
    apply Bool.not_eq_false _ |>.mp
    intro k;exact hb (.inr (.inr (.inr (.inr k))))
   unfold dy at hw
   simp only [Bool.and_eq_true,decide_eq_true_eq] at hw
   have hl:(nth aq e.2.2.1 i).1 < (e.2.1.length:Int):=Int.not_le.1 fun k=>hb (.inr (.inl k))
   exact ⟨⟨Int.not_lt.1 fun k=>hb (.inl k),by omega⟩,⟨Int.not_lt.1 fun k=>hb (.inr (.inr (.inl k))),Int.not_lt.1 fun k=>hb (.inr (.inr (.inr (.inl k))))⟩,hw⟩
theorem D6 {p:D ai} (h1:Nm p.1) (h2:dP 1 1000000 p.2.1) (h3:dP 0 255 p.2.2.1):(hH p).length<=64:=by
 have a:=h1.2.1;have b:=cI h2 (by decide) (by decide);have c:=cI h3 (by decide) (by decide)
 simp [hH];omega
theorem D7 {p:D aq} (h1:dP 0 5 p.1) (h2:dP 0 39 p.2.1) (h3:dP (-2147483648) 2147483647 p.2.2.1):(hU p).length<=64:=by
 have a:=cI h1 (by decide) (by decide);have b:=cI h2 (by decide) (by decide);have c:=cI h3 (by decide) (by decide)
 simp [hU];omega
theorem fo.head {e:D af} (h:fo e):(pk e).length<=64:=by
 have a:=h.nm.2.1
 have b:=cI (n:=(e.2.1.length:Int)) (a:=0) (b:=6) ⟨by omega,by have:=h.p6;omega⟩ (by decide) (by decide)
 have c:=cI (n:=(e.2.2.1.length:Int)) (a:=0) (b:=36) ⟨by omega,by have:=h.xf;omega⟩ (by decide) (by decide)
 simp [pk];omega
theorem fo.Ku {e:D af} (h:fo e) (i:Nat):(dS e i).length<=448:=by
 have a:=h.head
 have b:=tp (f:=hH) (l:=e.2.1.take i) fun x hx=>by
  obtain ⟨j,hj,rfl⟩:=gA (t:=ai) (List.mem_of_mem_take hx)
  obtain ⟨k1,k2,k3⟩:=h.parts j hj
  exact D6 k1 k2 k3
 have c:=h.p6
 have d:(e.2.1.take i).length<=e.2.1.length:=by simp;omega
 unfold dS;rw [List.length_append];omega
theorem fo.D8 {e:D af} (h:fo e) (i:Nat):(dM e i).length<=2752:=by
 have a:=h.Ku e.2.1.length
 have b:=tp (f:=hU) (l:=e.2.2.1.take i) fun x hx=>by
  obtain ⟨j,hj,rfl⟩:=gA (t:=aq) (List.mem_of_mem_take hx)
  obtain ⟨k1,k2,k3⟩:=h.z1 j hj
  exact D7 k1 k2 k3
 have c:=h.xf
 have d:(e.2.2.1.take i).length<=e.2.2.1.length:=by simp;omega
 unfold dM;rw [List.length_append];omega
theorem fo.lens {e:D af} (h:fo e):e.1.length<=8/\(Lib.itoa (e.2.1.length:Int)).length<=19/\(Lib.itoa (e.2.2.1.length:Int)).length<=19:=
 ⟨h.nm.2.1,cI (a:=0) (b:=6) ⟨by omega,by have:=h.p6;omega⟩ (by decide) (by decide),cI (a:=0) (b:=36) ⟨by omega,by have:=h.xf;omega⟩ (by decide) (by decide)⟩
theorem fo.KR {e:D af} (h:fo e) {i:Nat} (hi:i < e.2.1.length):(nth ai e.2.1 i).1.length<=8/\(Lib.itoa (nth ai e.2.1 i).2.1).length<=19/\(Lib.itoa (nth ai e.2.1 i).2.2.1).length<=19/\(dS e i).length<=448:=by
 obtain ⟨k1,k2,k3⟩:=h.parts i hi
 exact ⟨k1.2.1,cI k2 (by decide) (by decide),cI k3 (by decide) (by decide),h.Ku i⟩
theorem fo.KS {e:D af} (h:fo e) {i:Nat} (hi:i < e.2.2.1.length):(Lib.itoa (nth aq e.2.2.1 i).1).length<=19/\(Lib.itoa (nth aq e.2.2.1 i).2.1).length<=19/\(Lib.itoa (nth aq e.2.2.1 i).2.2.1).length<=19/\(dM e i).length<=2752:=by
 obtain ⟨k1,k2,k3⟩:=h.z1 i hi
 exact ⟨cI k1 (by decide) (by decide),cI k2 (by decide) (by decide),cI k3 (by decide) (by decide),h.D8 i⟩
theorem D9 {e:D af} {i:Nat} (h:i < e.2.1.length):dS e i++hH (nth ai e.2.1 i)=dS e (i + 1):=(D4 h).symm
theorem Ea {e:D af} {i:Nat} (h:i < e.2.2.1.length):dM e i++hU (nth aq e.2.2.1 i)=dM e (i + 1):=(D5 h).symm
theorem Eb {e:D af} (h:ay e≠0):([],au (ay e))=bq e:=by unfold bq;rw [if_pos h]
theorem FO {e:D af} (h:ay e=0) {i:Nat} (hi:i=e.2.2.1.length):(dM e i++[10],aF.nil)=bq e:=by unfold bq;rw [if_neg (not_not_intro h),hi];rfl
def pO (L:List aj):aj:=L.flatMap fun x=>32 :: x
theorem vT (L M:List aj):pO (L++M)=pO L++pO M:=by simp [pO]
theorem z6:∀(a:aj) (L:List aj),iA 32 (a :: L)=a++pO L
 | a,[]=>by simp [iA,pO]
 | a,b :: r=>by rw [iA,z6 b r];simp [pO]
def om (p:D ai):List aj:=[p.1,Lib.itoa p.2.1,Lib.itoa p.2.2.1]
def oq (p:D aq):List aj:=[Lib.itoa p.1,Lib.itoa p.2.1,Lib.itoa p.2.2.1]
def fc (e:D af):List aj:=e.1 :: ([Lib.itoa (e.2.1.length:Int),Lib.itoa (e.2.2.1.length:Int)]++(e.2.1.flatMap om++e.2.2.1.flatMap oq))
theorem tu {α:Type} {f:α->List aj} {g:α->aj} (h:∀x,pO (f x)=g x):∀l:List α,pO (l.flatMap f)=l.flatMap g
 | []=>rfl
 | x :: l=>by rw [List.flatMap_cons,vT,h,tu h l,List.flatMap_cons]
theorem sq (e:D af):lS e=iA 32 (fc e):=by
 unfold fc
 rw [z6,vT,vT,tu (g:=hH) (by intro x;simp [om,hH,pO]),tu (g:=hU) (by intro x;simp [oq,hU,pO])]
 unfold lS dM dS pk
 simp [pO]
theorem sr {e:D af} (h:fo e):∀y∈fc e,(32:UInt8)∉y/\(10:UInt8)∉y:=by
 intro y hy
 unfold fc at hy
 rcases List.mem_cons.1 hy with rfl | hy
 ·exact iF h.nm
 ·rcases List.mem_append.1 hy with hy | hy
  ·simp at hy
   rcases hy with rfl | rfl <;> exact ⟨dX _,gZ _⟩
  ·rcases List.mem_append.1 hy with hy | hy
   ·obtain ⟨p,hp,hy⟩:=List.mem_flatMap.1 hy
    obtain ⟨j,hj,rfl⟩:=gA (t:=ai) hp
    simp [om] at hy
    rcases hy with rfl | rfl | rfl
    ·exact iF (h.parts j hj).1
    ·exact ⟨dX _,gZ _⟩
    ·exact ⟨dX _,gZ _⟩
   ·obtain ⟨p,hp,hy⟩:=List.mem_flatMap.1 hy
    simp [oq] at hy
    rcases hy with rfl | rfl | rfl <;> exact ⟨dX _,gZ _⟩
theorem uT {c:UInt8} (hc:c≠32):∀{L:List aj},(∀y∈L,c∉y)->c∉iA 32 L
 | [],_=>by simp [iA]
 | [x],h=>h x (by simp)
 | x :: y :: r,h=>by
  rw [iA]
  intro hm
  rcases List.mem_append.1 hm with hm | hm
  ·exact h x (by simp) hm
  ·rcases List.mem_cons.1 hm with e | hm
   ·exact hc e
   ·exact uT hc (fun z hz=>h z (by simp [hz])) hm
theorem Ec {e:D af} (h:fo e):(10:UInt8)∉lS e:=by
 rw [sq];exact uT (by decide) fun y hy=>(sr h y hy).2
theorem BL {e:D af} (h:fo e):parts 32 (lS e)=fc e:=by
 rw [sq];exact nG (by unfold fc;simp) fun y hy=>(sr h y hy).1
theorem nI {e:D af} (h:fo e):parts 32 (Lib.trimSuffix (cy e) [10])=fc e:=by
 unfold cy;rw [od,BL h]
theorem qP {α:Type} {f:α->List aj} (hf:∀x,(f x).length=3):∀l:List α,(l.flatMap f).length=3 * l.length
 | []=>rfl
 | x :: l=>by rw [List.flatMap_cons,List.length_append,hf,qP hf l,List.length_cons];omega
theorem qQ {α:Type} [Inhabited α] {f:α->List aj} (hf:∀x,(f x).length=3):∀(l:List α) (i k:Nat),i < l.length->k < 3->nth .str (l.flatMap f) (3 * i + k)=nth .str (f (l.getD i default)) k
 | [],i,k,h,_=>by simp at h
 | x :: l,0,k,_,hk=>by
  rw [List.flatMap_cons,xc (t:=.str) (by rw [hf];omega)];simp
 | x :: l,i + 1,k,h,hk=>by
  rw [List.flatMap_cons,pg,if_neg (by rw [hf];omega),hf,show 3 * (i + 1) + k - 3=3 * i + k by omega,qQ hf l i k (by simpa using h) hk]
  simp
structure gr (w:List aj) (e:D af):Prop where
 len:w.length=3 + 3 * (e.2.1.length + e.2.2.1.length)
 root:nth .str w 0=e.1
 a:nth .str w 1=Lib.itoa (e.2.1.length:Int)
 b:nth .str w 2=Lib.itoa (e.2.2.1.length:Int)
 p0:∀i,i < e.2.1.length->nth .str w (3 + 3 * i)=(nth ai e.2.1 i).1
 p1:∀i,i < e.2.1.length->nth .str w (4 + 3 * i)=Lib.itoa (nth ai e.2.1 i).2.1
 p2:∀i,i < e.2.1.length->nth .str w (5 + 3 * i)=Lib.itoa (nth ai e.2.1 i).2.2.1
 q0:∀i,i < e.2.2.1.length->nth .str w (3 + 3 * (e.2.1.length + i))=Lib.itoa (nth aq e.2.2.1 i).1
 q1:∀i,i < e.2.2.1.length->nth .str w (4 + 3 * (e.2.1.length + i))=Lib.itoa (nth aq e.2.2.1 i).2.1
 q2:∀i,i < e.2.2.1.length->nth .str w (5 + 3 * (e.2.1.length + i))=Lib.itoa (nth aq e.2.2.1 i).2.2.1
theorem ss {t:Ty} {l:List (D t)} {i:Nat} (d:D t) (h:i < l.length):nth t l i=l.getD i d:=by
 unfold nth;rw [List.getD_eq_getElem?_getD,List.getD_eq_getElem?_getD,List.getElem?_eq_getElem h];rfl
theorem z7 (e:D af):gr (fc e) e:=by
 have hs:∀x,(om x).length=3:=fun _=>rfl
 have hp:∀x,(oq x).length=3:=fun _=>rfl
 have ls:=qP hs e.2.1
 have lp:=qP hp e.2.2.1
 have at3:∀k,nth .str (fc e) (3 + k)=nth .str (e.2.1.flatMap om++e.2.2.1.flatMap oq) k:=fun k=>by
  rw [show 3 + k=k + 1 + 1 + 1 by omega];rfl
 letI:Inhabited (D ai):=⟨bp ai⟩
 letI:Inhabited (D aq):=⟨bp aq⟩
 have hP:∀i k,i < e.2.1.length->k < 3->nth .str (fc e) (3 + (3 * i + k))=nth .str (om (nth ai e.2.1 i)) k:=fun i k hi hk=>by
  rw [at3,xc (t:=.str) (by omega),qQ hs _ i k hi hk,ss default hi]
 have hQ:∀i k,i < e.2.2.1.length->k < 3->nth .str (fc e) (3 + (3 * (e.2.1.length + i) + k))=nth .str (oq (nth aq e.2.2.1 i)) k:=fun i k hi hk=>by
  rw [at3,pg,if_neg (by omega),ls,show 3 * (e.2.1.length + i) + k - 3 * e.2.1.length=3 * i + k by omega,qQ hp _ i k hi hk,ss default hi]
 refine ⟨?_,rfl,rfl,rfl,fun i hi => ?_,fun i hi => ?_,fun i hi => ?_,fun i hi => ?_,fun i hi => ?_,fun i hi => ?_⟩
 ·unfold fc;simp only [List.length_cons,List.length_append,List.length_nil,ls,lp];omega
 ·exact hP i 0 hi (by omega)
 ·rw [show 4 + 3 * i=3 + (3 * i + 1) by omega];exact hP i 1 hi (by omega)
 ·rw [show 5 + 3 * i=3 + (3 * i + 2) by omega];exact hP i 2 hi (by omega)
 ·exact hQ i 0 hi (by omega)
 ·rw [show 4 + 3 * (e.2.1.length + i)=3 + (3 * (e.2.1.length + i) + 1) by omega];exact hQ i 1 hi (by omega)
 ·rw [show 5 + 3 * (e.2.1.length + i)=3 + (3 * (e.2.1.length + i) + 2) by omega];exact hQ i 2 hi (by omega)
end Go.Mrl

namespace Go.Mrl
open Go.Vg
def partAt (A:aj->Int) (w:List aj) (i:Nat):D ai:=(nth .str w (3 + 3 * i),A (nth .str w (4 + 3 * i)),A (nth .str w (5 + 3 * i)),())
def ot (A:aj->Int) (w:List aj) (i:Nat):D aq:=(A (nth .str w (3 + 3 * i)),A (nth .str w (4 + 3 * i)),A (nth .str w (5 + 3 * i)),())
def bO (A:aj->Int) (w:List aj) (n:Nat):List (D ai):=(List.range n).map (partAt A w)
def bg (A:aj->Int) (w:List aj) (a n:Nat):List (D aq):=(List.range n).map fun i=>ot A w (a + i)
theorem su (A:aj->Int) (w:List aj) (n:Nat):(bO A w n).length=n:=by simp [bO]
theorem pP (A:aj->Int) (w:List aj) (a n:Nat):(bg A w a n).length=n:=by simp [bg]
theorem BM {A:aj->Int} {w:List aj} {n i:Nat} (h:i < n):nth ai (bO A w n) i=partAt A w i:=by
 unfold nth bO;rw [List.getD_eq_getElem?_getD,List.getElem?_map,List.getElem?_range h];rfl
theorem x6 {A:aj->Int} {w:List aj} {a n i:Nat} (h:i < n):nth aq (bg A w a n) i=ot A w (a + i):=by
 unfold nth bg;rw [List.getD_eq_getElem?_getD,List.getElem?_map,List.getElem?_range h];rfl
theorem z8 (A:aj->Int) (w:List aj) (n:Nat):bO A w (n + 1)=bO A w n++[partAt A w n]:=by simp [bO,List.range_succ]
theorem vU (A:aj->Int) (w:List aj) (a n:Nat):bg A w a (n + 1)=bg A w a n++[ot A w (a + n)]:=by simp [bg,List.range_succ]
def IJ (A:aj->Int):Prop:=∀n:Int,dP (-2147483648) 2147483647 n->A (Lib.itoa n)=n
theorem cW {a b n:Int} (h:dP a b n) (ha : -2147483648<=a) (hb:b<=2147483647):dP (-2147483648) 2147483647 n:=⟨Int.le_trans ha h.1,Int.le_trans h.2 hb⟩
theorem fo.na {e:D af} (h:fo e):dP 0 6 (e.2.1.length:Int):=⟨by omega,by have:=h.p6;omega⟩
theorem fo.nb {e:D af} (h:fo e):dP 0 36 (e.2.2.1.length:Int):=⟨by omega,by have:=h.xf;omega⟩
theorem gr.eq {A:aj->Int} (hA:IJ A) {w:List aj} {e:D af} (r:gr w e) (h:fo e):e=(nth .str w 0,bO A w e.2.1.length,bg A w e.2.1.length e.2.2.1.length,()):=by
 obtain ⟨s,p,q,_⟩:=e
 have e1:p=bO A w p.length:=mA (t:=ai) (by rw [su]) fun i hi=>by
  rw [BM hi]
  obtain ⟨k1,k2,k3⟩:=h.parts i hi
  unfold partAt
  rw [r.p0 i hi,r.p1 i hi,r.p2 i hi,hA _ (cW k2 (by decide) (by decide)),hA _ (cW k3 (by decide) (by decide))]
 have e2:q=bg A w p.length q.length:=mA (t:=aq) (by rw [pP]) fun i hi=>by
  rw [x6 hi]
  obtain ⟨k1,k2,k3⟩:=h.z1 i hi
  unfold ot
  rw [r.q0 i hi,r.q1 i hi,r.q2 i hi,hA _ (cW k1 (by decide) (by decide)),hA _ (cW k2 (by decide) (by decide)),hA _ k3]
 have e0:nth .str w 0=s:=r.root
 rw [e0]
 exact congrArg (fun z=>(s,z)) (show (p,q,())=(bO A w p.length,bg A w p.length q.length,()) by rw [<-e1,<-e2])
def bo (s:aj):Int:=(eg s).1
theorem dz:IJ bo:=fun n h=>by
 have:=l7 h (by decide) (by decide)
 exact FN this
theorem FP {e e':D af} (h:ay e=0) (h':ay e'=0) (ht:cy e=cy e'):e=e':=by
 have k:=gq h
 have k':=gq h'
 have hw:fc e=fc e':=by rw [<-nI k,<-nI k',ht]
 have r:=z7 e
 have r':=z7 e'
 rw [hw] at r
 have ha:(e.2.1.length:Int)=(e'.2.1.length:Int):=by
  rw [<-dz _ (cW k.na (by decide) (by decide)),<-dz _ (cW k'.na (by decide) (by decide)),<-r.a,<-r'.a]
 have hb:(e.2.2.1.length:Int)=(e'.2.2.1.length:Int):=by
  rw [<-dz _ (cW k.nb (by decide) (by decide)),<-dz _ (cW k'.nb (by decide) (by decide)),<-r.b,<-r'.b]
 refine (r.eq dz k).trans (Eq.trans ?_ (r'.eq dz k').symm)
 rw [Int.ofNat_inj.1 ha,Int.ofNat_inj.1 hb]
open Classical in
noncomputable def jt (s:aj):D af × Int:=if h:∃e:D af,ay e=0/\cy e=s then (Classical.choose h,0) else (bp af,4)
theorem CI {s:aj} {e:D af} (hf:ay e=0) (ht:cy e=s):jt s=(e,0):=by
 have hx:∃e:D af,ay e=0/\cy e=s:=⟨e,hf,ht⟩
 have hc:=Classical.choose_spec hx
 unfold jt
 rw [dif_pos hx,FP hc.1 hf (hc.2.trans ht.symm)]
theorem HQ {s:aj} (hn:∀e:D af,ay e=0->cy e=s->False):jt s=(bp af,4):=by
 unfold jt
 rw [dif_neg fun ⟨e,h1,h2⟩=>hn e h1 h2]
noncomputable def cU (s:aj):D af × aF:=((jt s).1,au (jt s).2)
theorem ke {s:aj} (hn:∀e:D af,ay e=0->cy e=s->False):(bp af,aF.no 4)=cU s:=by unfold cU;rw [HQ hn];rfl
theorem FQ {s:aj} {e:D af} (h:(bq e).2.isNil=true) (ht:(bq e).1=s):(e,aF.nil)=cU s:=by
 have hf:ay e=0:=by
  apply Classical.byContradiction;intro hf
  unfold bq at h;rw [if_pos hf] at h
  exact hf (aS.1 h)
 unfold bq at ht;rw [if_neg (not_not_intro hf)] at ht
 unfold cU;rw [CI hf ht];rfl
def ga (l:List aj):List Int:=l.map bo
def pn (l:List aj):Bool:=l.all fun s=>(cA s).isSome
def aO (l:List aj):List Int × Bool:=if pn l=true then (ga l,true) else ([],false)
theorem HR {l:List aj} {i:Nat} (hi:i < l.length) (h:cA (nth .str l i)=none):pn l=false:=by
 unfold pn
 rw [List.all_eq_false]
 exact ⟨nth .str l i,gz (t:=.str) hi,by rw [h];decide⟩
theorem sw {l:List aj} {i:Nat} (hi:i < l.length) (h:(cA (nth .str l i)).isNone=true):([],false)=aO l:=by
 unfold aO;rw [HR hi (Option.isNone_iff_eq_none.1 h)];rfl
theorem po {l:List aj} (h:∀j,j < l.length->(cA (nth .str l j)).isNone=false):pn l=true:=by
 unfold pn
 rw [List.all_eq_true]
 intro s hs
 obtain ⟨j,hj,rfl⟩:=gA (t:=.str) hs
 have:=h j hj
 cases hh:cA (nth .str l j) with
 | none=>rw [hh] at this;cases this
 | some n=>rfl
theorem Ed {l:List aj} {i:Nat} (hi:¬ i < l.length) (h:∀j,j < i->j < l.length->(cA (nth .str l j)).isNone=false):(ga (l.take i),true)=aO l:=by
 unfold aO;rw [po fun j hj=>h j (by omega) hj,if_pos rfl,List.take_of_length_le (by omega)]
theorem uU {l:List aj} {i:Nat} (h:i < l.length):ga (l.take (i + 1))=ga (l.take i)++[(eg (nth .str l i)).1]:=by
 rw [fW (t:=.str) h];simp [ga,bo]
theorem hZ {l:List aj}:(aO l).2=pn l:=by
 unfold aO;split
 ·rename_i h;rw [h]
 ·rename_i h;rw [Bool.not_eq_true _ |>.mp h]
theorem sx {l:List aj} (h:(aO l).2=true) {i:Nat} (hi:i < l.length):nth (.int .i64) (aO l).1 i=bo (nth .str l i)/\(cA (nth .str l i)).isNone=false:=by
 have hk:=h
 rw [hZ] at hk
 constructor
 ·unfold aO;rw [if_pos hk]
  unfold nth ga;rw [List.getD_eq_getElem?_getD,List.getD_eq_getElem?_getD,List.getElem?_map,List.getElem?_eq_getElem hi];rfl
 ·unfold pn at hk
  rw [List.all_eq_true] at hk
  have:=hk _ (gz (t:=.str) hi)
  cases hh:cA (nth .str l i) with
  | none=>rw [hh] at this;cases this
  | some n=>rfl
theorem BN {l:List aj} (h:(aO l).2=true):(aO l).1.length=l.length:=by
 rw [hZ] at h
 unfold aO;rw [if_pos h];simp [ga]
end Go.Mrl

namespace Go.Mrl
open Go.Vg
structure kD (w:List aj):Prop where
 ka:(cA (nth .str w 1)).isNone=false
 kb:(cA (nth .str w 2)).isNone=false
 a0:(0:Int)<=bo (nth .str w 1)
 a6:bo (nth .str w 1)<=(6:Int)
 b0:(0:Int)<=bo (nth .str w 2)
 cn:bo (nth .str w 2)<=(36:Int)
 len:(w.length:Int)=3 + 3 * (bo (nth .str w 1) + bo (nth .str w 2))
theorem uV {t:Ty} {l:List (D t)} {i j k:Nat} (h:i + k < j):nth t (List.drop i (List.take j l)) k=nth t l (i + k):=by
 unfold nth;rw [List.getD_eq_getElem?_getD,List.getD_eq_getElem?_getD,List.getElem?_drop,List.getElem?_take,if_pos h]
theorem Aa {α:Type} {l:List α} {i j:Nat} (h:j<=l.length):(List.drop i (List.take j l)).length=j - i:=by simp;omega
theorem FR (s:aj) (c:UInt8) (h:s.length<=100000):(parts c (Lib.trimSuffix s [10])).length<=100001:=by
 have a:=qH c (Lib.trimSuffix s [10]);have b:=vS s [10];omega
theorem ly {l:List aj} {n:Nat} (h:∀y∈l,y.length<=n) (i:Nat):(nth .str l i).length<=n:=by
 by_cases hi:i < l.length
 ·exact h _ (gz (t:=.str) hi)
 ·unfold nth;rw [List.getD_eq_getElem?_getD,List.getElem?_eq_none (by omega)];exact Nat.zero_le _
theorem nJ {s:aj} {c:UInt8} (h:s.length<=100000):∀y∈parts c (Lib.trimSuffix s [10]),y.length<=1000000:=fun y hy=>by
 have a:=mw c _ y hy;have b:=vS s [10];omega
theorem Ab {l:List aj} {n:Nat} (h:∀y∈l,y.length<=n) (i j:Nat):∀y∈List.drop i (List.take j l),y.length<=n:=fun y hy=>h y (List.mem_of_mem_take (List.mem_of_mem_drop hy))
theorem Jj {s:aj} {c:UInt8} (h:s.length<=100000) (i j:Nat):(List.drop i (List.take j (parts c (Lib.trimSuffix s [10])))).length<=1000000/\∀k,(nth .str (List.drop i (List.take j (parts c (Lib.trimSuffix s [10])))) k).length<=1000000:=
 ⟨by have:=FR s c h;simp;omega,ly (Ab (nJ h) i j)⟩
theorem Jk {w:List aj} (h:3<=w.length) (hk:(aO (List.drop 1 (List.take 3 w))).2=true) :
  (aO (List.drop 1 (List.take 3 w))).1 = [bo (nth .str w 1),bo (nth .str w 2)]/\(cA (nth .str w 1)).isNone=false/\(cA (nth .str w 2)).isNone=false:=by
 have hl:(List.drop 1 (List.take 3 w)).length=2:=Aa h
 obtain ⟨a1,a2⟩:=sx hk (i:=0) (by omega)
 obtain ⟨b1,b2⟩:=sx hk (i:=1) (by omega)
 have hn:=BN hk
 rw [uV (t:=.str) (by omega)] at a1 a2 b1 b2
 refine ⟨mA (t:=.int .i64) (by rw [hn,hl];rfl) fun i hi => ?_,a2,b2⟩
 rw [hn,hl] at hi
 rcases (show i=0\/i=1 by omega) with rfl | rfl
 ·rw [a1];rfl
 ·rw [b1];rfl
theorem BO {w:List aj} (h:3<=w.length) (hk:(aO (List.drop 1 (List.take 3 w))).2=false):¬ kD w:=by
 intro hd
 have hl:(List.drop 1 (List.take 3 w)).length=2:=Aa h
 rw [hZ,po fun j hj => ?_] at hk
 ·cases hk
 ·rw [hl] at hj
  rcases (show j=0\/j=1 by omega) with rfl | rfl
  ·rw [uV (t:=.str) (by omega)];exact hd.ka
  ·rw [uV (t:=.str) (by omega)];exact hd.kb
theorem Ac {w:List aj} (h:¬ kD w):(true=false ↔ kD w):=⟨fun e=>Bool.noConfusion e,fun e=>absurd e h⟩
theorem Kv {w:List aj} (ka:(cA (nth .str w 1)).isNone=false) (kb:(cA (nth .str w 2)).isNone=false) {a b x:Int} (ha:a=bo (nth .str w 1)) (hb:b=bo (nth .str w 2))
  (a0:0<=a) (a6:a<=6) (b0:0<=b) (cn:b<=36) (hx:x=3 * (a + b)):(((w.length:Int) != 3 + x)=false ↔ kD w):=by
 subst ha;subst hb;subst hx
 constructor
 ·intro h;exact ⟨ka,kb,a0,a6,b0,cn,by simpa using h⟩
 ·intro h;simpa using h.len
theorem kE {s:aj} {e:D af} (hf:ay e=0) (ht:cy e=s):gr (parts 32 (Lib.trimSuffix s [10])) e/\fo e:=by
 have k:=gq hf
 rw [<-ht,nI k];exact ⟨z7 e,k⟩
theorem gr.na {A:aj->Int} (hA:IJ A) {w:List aj} {e:D af} (r:gr w e) (k:fo e):A (nth .str w 1)=(e.2.1.length:Int):=by rw [r.a,hA _ (cW k.na (by decide) (by decide))]
theorem gr.nb {A:aj->Int} (hA:IJ A) {w:List aj} {e:D af} (r:gr w e) (k:fo e):A (nth .str w 2)=(e.2.2.1.length:Int):=by rw [r.b,hA _ (cW k.nb (by decide) (by decide))]
theorem ia {n:Int} (h:dP (-2147483648) 2147483647 n):(cA (Lib.itoa n)).isNone=false:=by rw [l7 h (by decide) (by decide)];rfl
theorem gr.hd {w:List aj} {e:D af} (r:gr w e) (k:fo e):kD w:=by
 have a:=r.na dz k;have b:=r.nb dz k
 have c:=k.p6;have d:=k.xf;have l:=r.len
 refine ⟨by rw [r.a];exact ia (cW k.na (by decide) (by decide)),by rw [r.b];exact ia (cW k.nb (by decide) (by decide)),?_,?_,?_,?_,?_⟩ <;> (try rw [a]) <;> (try rw [b]) <;> omega
section
variable {s:aj}
theorem Ad (h:(parts 32 (Lib.trimSuffix s [10])).length < 3):(bp af,aF.no 4)=cU s:=ke fun e hf ht=>by
 have:=(kE hf ht).1.len;omega
theorem BP (h:¬ kD (parts 32 (Lib.trimSuffix s [10]))):(bp af,aF.no 4)=cU s:=ke fun e hf ht=>h ((kE hf ht).1.hd (kE hf ht).2)
theorem HS {w:List aj} {e:D af} (r:gr w e) (k:fo e) {i:Nat} (hi:i < e.2.1.length):(cA (nth .str w (4 + 3 * i))).isNone=false/\(cA (nth .str w (5 + 3 * i))).isNone=false:=by
 obtain ⟨_,k2,k3⟩:=k.parts i hi
 rw [r.p1 i hi,r.p2 i hi]
 exact ⟨ia (cW k2 (by decide) (by decide)),ia (cW k3 (by decide) (by decide))⟩
theorem FT {w:List aj} {e:D af} (r:gr w e) (k:fo e) {i:Nat} (hi:e.2.1.length<=i) (hi2:i < e.2.1.length + e.2.2.1.length) :
  (cA (nth .str w (3 + 3 * i))).isNone=false/\(cA (nth .str w (4 + 3 * i))).isNone=false/\(cA (nth .str w (5 + 3 * i))).isNone=false:=by
 obtain ⟨j,rfl⟩:∃j,i=e.2.1.length + j:=⟨i - e.2.1.length,by omega⟩
 obtain ⟨k1,k2,k3⟩:=k.z1 j (by omega)
 rw [r.q0 j (by omega),r.q1 j (by omega),r.q2 j (by omega)]
 exact ⟨ia (cW k1 (by decide) (by decide)),ia (cW k2 (by decide) (by decide)),ia k3⟩
structure ft (w x:List aj) (i:Nat):Prop where
 len:x.length=3
 a:nth .str x 0=nth .str w (3 + 3 * i)
 b:nth .str x 1=nth .str w (4 + 3 * i)
 c:nth .str x 2=nth .str w (5 + 3 * i)
theorem FU {w:List aj} {i:Nat} {p q:Int} (hp:p=3 * (i:Int)) (hq:q=3 * (i:Int)) (h:3 + 3 * (i + 1)<=w.length):ft w (List.drop (Int.toNat (3 + p)) (List.take (Int.toNat (6 + q)) w)) i:=by
 subst hp;subst hq
 rw [show Int.toNat (3 + 3 * (i:Int))=3 + 3 * i by omega,show Int.toNat (6 + 3 * (i:Int))=6 + 3 * i by omega]
 refine ⟨by rw [Aa (by omega)];omega,?_,?_,?_⟩ <;> rw [uV (t:=.str) (by omega)] <;> congr 1 <;> omega
theorem sy {n:Nat} {w x:List aj} {i:Nat} (h:ft w x i) (hw:∀y∈w,y.length<=n) (k:Nat):(nth .str x k).length<=n:=by
 rcases Nat.lt_or_ge k 3 with hk | hk
 ·rcases (show k=0\/k=1\/k=2 by omega) with rfl | rfl | rfl
  ·rw [h.a];exact ly hw _
  ·rw [h.b];exact ly hw _
  ·rw [h.c];exact ly hw _
 ·unfold nth;rw [List.getD_eq_getElem?_getD,List.getElem?_eq_none (by rw [h.len];omega)];exact Nat.zero_le _
theorem uW {w x:List aj} {i:Nat} (h:ft w x i):List.drop 1 (List.take (List.length x) x) = [nth .str w (4 + 3 * i),nth .str w (5 + 3 * i)]:=by
 match x,h with
 | [p,q,r],h=>rw [<-h.b,<-h.c];rfl
theorem Ae {w x:List aj} {i:Nat} (h:ft w x i):x = [nth .str w (3 + 3 * i),nth .str w (4 + 3 * i),nth .str w (5 + 3 * i)]:=by
 match x,h with
 | [p,q,r],h=>rw [<-h.a,<-h.b,<-h.c];rfl
theorem xg {w x:List aj} {i:Nat} (h:ft w x i) (hk:(aO (List.drop 1 (List.take (List.length x) x))).2=true) :
  (aO (List.drop 1 (List.take (List.length x) x))).1 = [bo (nth .str w (4 + 3 * i)),bo (nth .str w (5 + 3 * i))]:=by
 rw [hZ] at hk
 unfold aO;rw [if_pos hk,uW h];rfl
theorem Af {w x:List aj} {i:Nat} (h:ft w x i) (hk:(aO x).2=true):(aO x).1 = [bo (nth .str w (3 + 3 * i)),bo (nth .str w (4 + 3 * i)),bo (nth .str w (5 + 3 * i))]:=by
 rw [hZ] at hk
 unfold aO;rw [if_pos hk];conv=>lhs;rw [Ae h]
 rfl
theorem BQ {x:List aj} {i:Nat} (h:ft (parts 32 (Lib.trimSuffix s [10])) x i) (hi:(i:Int) < bo (nth .str (parts 32 (Lib.trimSuffix s [10])) 1)) (hk:(aO (List.drop 1 (List.take (List.length x) x))).2=false):(bp af,aF.no 4)=cU s:=
 ke fun e hf ht=>by
  obtain ⟨r,k⟩:=kE hf ht
  rw [r.na dz k] at hi
  obtain ⟨a,b⟩:=HS r k (i:=i) (by omega)
  rw [hZ,uW h,po fun j hj => ?_] at hk
  ·cases hk
  ·rcases (show j=0\/j=1 by simp at hj;omega) with rfl | rfl
   ·exact a
   ·exact b
theorem Ag {x:List aj} {i:Nat} (h:ft (parts 32 (Lib.trimSuffix s [10])) x i) (hi:bo (nth .str (parts 32 (Lib.trimSuffix s [10])) 1)<=(i:Int)) (hi2:(i:Int) < bo (nth .str (parts 32 (Lib.trimSuffix s [10])) 1) + bo (nth .str (parts 32 (Lib.trimSuffix s [10])) 2)) (hk:(aO x).2=false):(bp af,aF.no 4)=cU s:=
 ke fun e hf ht=>by
  obtain ⟨r,k⟩:=kE hf ht
  rw [r.na dz k] at hi hi2
  rw [r.nb dz k] at hi2
  obtain ⟨a,b,c⟩:=FT r k (i:=i) (by omega) (by omega)
  rw [Ae h] at hk
  rw [hZ,po fun j hj => ?_] at hk
  ·cases hk
  ·rcases (show j=0\/j=1\/j=2 by simp at hj;omega) with rfl | rfl | rfl
   ·exact a
   ·exact b
   ·exact c
def yp (A:aj->Int) (w:List aj) (a b:Nat):D af:=(nth .str w 0,bO A w a,bg A w a b,())
theorem sA {a b:Nat} (ha:bo (nth .str (parts 32 (Lib.trimSuffix s [10])) 1)=(a:Int)) (hb:bo (nth .str (parts 32 (Lib.trimSuffix s [10])) 2)=(b:Int))
  (h:(bq (yp bo (parts 32 (Lib.trimSuffix s [10])) a b)).2.isNil=false\/¬ (bq (yp bo (parts 32 (Lib.trimSuffix s [10])) a b)).1=s):(bp af,aF.no 4)=cU s:=
 ke fun e hf ht=>by
  obtain ⟨r,k⟩:=kE hf ht
  rw [r.na dz k] at ha
  rw [r.nb dz k] at hb
  have he:yp bo (parts 32 (Lib.trimSuffix s [10])) a b=e:=by
   rw [<-Int.ofNat_inj.1 ha,<-Int.ofNat_inj.1 hb];exact (r.eq dz k).symm
  rw [he] at h
  unfold bq at h;rw [if_neg (not_not_intro hf)] at h
  rcases h with h | h
  ·cases h
  ·exact h ht
end
def lM (w:List aj) (y:List Int × Bool):Prop:=(y.2=true->y.1 = [bo (nth .str w 1),bo (nth .str w 2)]/\(cA (nth .str w 1)).isNone=false/\(cA (nth .str w 2)).isNone=false)/\(y.2=false->¬ kD w)
theorem Jl {w:List aj} (h:3<=w.length):lM w (aO (List.drop 1 (List.take 3 w))):=⟨fun hk=>Jk h hk,fun hk=>BO h hk⟩
theorem lM.ok {w:List aj} {y:List Int × Bool} (h:lM w y) (hd:kD w):y.2=true:=by
 cases hy:y.2 with
 | true=>rfl
 | false=>exact absurd hd (h.2 hy)
theorem lM.get {w:List aj} {y:List Int × Bool} (h:lM w y) (hd:kD w):y.1 = [bo (nth .str w 1),bo (nth .str w 2)]:=(h.1 (h.ok hd)).1
theorem lM.l0 {w:List aj} {y:List Int × Bool} (h:lM w y) (hy:y.2=true):@Eq Int (nth (.int .i64) y.1 0) (bo (nth .str w 1)):=by rw [(h.1 hy).1];rfl
theorem lM.l1 {w:List aj} {y:List Int × Bool} (h:lM w y) (hy:y.2=true):@Eq Int (nth (.int .i64) y.1 1) (bo (nth .str w 2)):=by rw [(h.1 hy).1];rfl
theorem lM.k0 {w:List aj} {y:List Int × Bool} (h:lM w y) (hd:kD w):@Eq Int (nth (.int .i64) y.1 0) (bo (nth .str w 1)):=h.l0 (h.ok hd)
theorem lM.k1 {w:List aj} {y:List Int × Bool} (h:lM w y) (hd:kD w):@Eq Int (nth (.int .i64) y.1 1) (bo (nth .str w 2)):=h.l1 (h.ok hd)
theorem FV {w x:List aj} {i:Nat} (h:ft w x i) (hw:∀y∈w,y.length<=1000000):x.length<=1000000/\∀k,(nth .str x k).length<=1000000:=⟨by rw [h.len];decide,sy h hw⟩
theorem FW {w x:List aj} {i:Nat} (h:ft w x i) {n:Nat} (hw:∀y∈w,y.length<=n):∀y∈x,y.length<=n:=fun y hy=>by
 obtain ⟨k,hk,rfl⟩:=gA (t:=.str) hy
 exact sy h hw k
theorem Ee {w x:List aj} {i:Nat} (h:ft w x i) (hw:∀y∈w,y.length<=1000000):(List.drop 1 (List.take (List.length x) x)).length<=1000000/\∀k,(nth .str (List.drop 1 (List.take (List.length x) x)) k).length<=1000000:=
 ⟨by have:=h.len;simp;omega,ly (Ab (FW h hw) _ _)⟩
theorem FX (A:aj->Int) (w:List aj) (k:Nat):([]:List (D ai))=bO A w (Nat.min 0 k):=by rw [show Nat.min 0 k=0 from Nat.zero_min k];rfl
theorem IK (A:aj->Int) (w:List aj) (k:Nat):([]:List (D aq))=bg A w k (0 - k):=by rw [Nat.zero_sub];rfl
theorem FY {i k:Nat} (h:i < k):Nat.min i k=i/\Nat.min (i + 1) k=i + 1:=⟨Nat.min_eq_left (by omega),Nat.min_eq_left h⟩
theorem Ah {i k:Nat} (h:k<=i):Nat.min i k=k/\Nat.min (i + 1) k=k:=⟨Nat.min_eq_right h,Nat.min_eq_right (by omega)⟩
theorem xh {w x:List aj} {i k:Nat} (h:ft w x i) (hk:(aO (List.drop 1 (List.take (List.length x) x))).2=true) (hi:i < k) :
  bO bo w (Nat.min i k)++[(nth .str x 0,nth (.int .i64) (aO (List.drop 1 (List.take (List.length x) x))).1 0,nth (.int .i64) (aO (List.drop 1 (List.take (List.length x) x))).1 1,())]=bO bo w (Nat.min (i + 1) k):=by
 rw [(FY hi).1,(FY hi).2,z8,xg h hk,h.a];rfl
theorem xi {A:aj->Int} {w:List aj} {i k:Nat} (hi:i < k):bg A w k (i - k)=bg A w k (i + 1 - k):=by congr 1;omega
theorem uX {A:aj->Int} {w:List aj} {i k:Nat} (hi:k<=i):bO A w (Nat.min i k)=bO A w (Nat.min (i + 1) k):=by rw [(Ah hi).1,(Ah hi).2]
theorem Ai {w x:List aj} {i k:Nat} (h:ft w x i) (hk:(aO x).2=true) (hi:k<=i) :
  bg bo w k (i - k)++[(nth (.int .i64) (aO x).1 0,nth (.int .i64) (aO x).1 1,nth (.int .i64) (aO x).1 2,())]=bg bo w k (i + 1 - k):=by
 rw [show i + 1 - k=(i - k) + 1 by omega,vU,Af h hk]
 unfold ot
 rw [show k + (i - k)=i by omega];rfl
theorem Aj {A:aj->Int} {w:List aj} {i a b:Nat} (h:i=a + b):(((nth .str w 0,bO A w (Nat.min i a),bg A w a (i - a),())):D af)=yp A w a b:=by
 rw [(Ah (i:=i) (k:=a) (by omega)).1,show i - a=b by omega];rfl
theorem Ef {A:aj->Int} {w:List aj} {n:Nat} {x:D ai} (h:n<=100):(bO A w n).length + [x].length<=1000000000:=by rw [su,List.length_singleton];omega
theorem FZ {A:aj->Int} {w:List aj} {k n:Nat} {x:D aq} (h:n<=100):(bg A w k n).length + [x].length<=1000000000:=by rw [pP,List.length_singleton];omega
theorem BR {A:aj->Int} {w:List aj} {i k:Nat} {x:D ai} (h:k<=100):(bO A w (Nat.min i k)).length + [x].length<=1000000000:=Ef (Nat.le_trans (Nat.min_le_right i k) h)
end Go.Mrl

namespace Go.Mrl
open Go.Vg
theorem pq {e:D af} (h:(bq e).2.isNil=true):ay e=0/\(bq e).1=cy e:=by
 have hf:ay e=0:=by
  apply Classical.byContradiction;intro hf
  unfold bq at h;rw [if_pos hf] at h
  exact hf (aS.1 h)
 exact ⟨hf,by unfold bq;rw [if_neg (not_not_intro hf)]⟩
theorem Eg {e:D af} (h:(bq e).2.isNil=true):(bq e).1.length<=2753:=by
 obtain ⟨hf,ht⟩:=pq h
 rw [ht];unfold cy
 have:=(gq hf).D8 e.2.2.1.length
 rw [List.length_append];unfold lS
 simp;omega
abbrev tw:D af:=([97],[([97],1,0,())],[],())
end Go.Mrl

namespace Go.Mrl
open Go.Vg
theorem Eh {n:Nat} {p:Pt} (h:dy p.2.2.1=false):bx n p=1:=by unfold bx;rw [if_pos];exact .inr (.inr (.inr (.inr h)))
theorem BS {n:Nat} {p:Pt} (h1:(0:Int)<=p.1) (h2:p.1 < (n:Int)) (h3:(0:Int)<=p.2.1) (h4:p.2.1<=(39:Int)) (h5:dy p.2.2.1=true):bx n p=0:=by
 unfold bx;rw [if_neg]
 rintro (e | e | e | e | e)
 ·exact absurd e (Int.not_lt.2 h1)
 ·exact absurd h2 (Int.not_lt.2 e)
 ·exact absurd e (Int.not_lt.2 h3)
 ·exact absurd e (Int.not_lt.2 h4)
 ·rw [h5] at e;cases e
section
variable {s:aj}
end
end Go.Mrl

namespace Go.Mrl
open Go.Vg
end Go.Mrl

namespace Go.Mrl
open Go.Vg
theorem Ak (e:D af):(bq e).2=au (ay e):=by
 unfold bq;split
 ·rfl
 ·next h=>rw [Classical.not_not.1 h];rfl
end Go.Mrl

namespace Go.Vg
open Go.RowKit
def gJ (F:Fence):Prop:=F=Fence.wide\/∃l,F=Fence.wide.inRound l
def gu (ds:List Deferred) (a:Act):Act:={a with defers:=ds}
theorem l8 (ds:List Deferred) (a:Act) (d:Option Tmp) (v:Value):(gu ds a).put d v=gu ds (a.put d v):=by cases d <;> rfl
theorem Al (ds:List Deferred) (a:Act):(gu ds a).eval=a.eval:=by funext x;cases x <;> rfl
theorem Am (ds:List Deferred) (a:Act):(gu ds a).tmps=a.tmps:=rfl
theorem put_defers (a:Act) (d:Option Tmp) (v:Value):(a.put d v).defers=a.defers:=by cases d <;> rfl
section
variable {P:Program} {F:Fence} {n:Nat}
theorem gJ.fn (h:gJ F) (f:FuncId):F.fn f:=by rcases h with rfl | ⟨l,rfl⟩ <;> trivial
theorem gJ.deep (h:gJ F):¬ F.depth.isSome=true:=by rcases h with rfl | ⟨l,rfl⟩ <;> simp [Fence.wide,Fence.inRound]
theorem gJ.calls (h:gJ F) {f:FuncId} {args:Array Value} {w:World} {R:Ending->World->Prop} (hc:Calls P f args w R):CallsIn F n P f args w R:=by
 rcases h with rfl | ⟨l,rfl⟩
 ·exact callsIn_wide.2 hc
 ·exact CallsIn.inRound l (callsIn_wide.2 hc)
theorem gJ.rows (h:gJ F) {row:String} {args:Array Value} {w:World} {R:Value->World->Prop} (hc:Rows P row args w R):RowsIn F n P row args w R:=by
 have hs:∀{m m':Machine},Steps P m m'->StepsIn (Machine.fenced P F) P m m':=by
  rcases h with rfl | ⟨l,rfl⟩
  ·exact stepsIn_wide.2
  ·exact fun hh=>stepsIn_wide.2 hh
 intro c cs _
 obtain ⟨v,w',r,s⟩:=hc c cs
 exact ⟨v,w',r,hs s⟩
structure pr (Q:Exit->Act->World->Prop):Prop where
 bare:∀e a w,Q e a w->a.defers = []
 F0:∀c a w,¬ Q (.panic c) a w
 out:¬ LetsOut Q
variable {Q Q':Exit->Act->World->Prop}
theorem vV (hQ:pr Q) {o:Oper} {K:Act->World->Prop} (hK:∀a w,K a w->a.defers = []) {a:Act} {w:World} (h:o.wp P a w K Q):a.defers = []:=by
 unfold Oper.wp at h
 generalize (execOp a.eval o).run P w=r at h
 cases r with
 | ok x w'=>
  cases x with
  | value v=>have:=hK _ _ h;rwa [put_defers] at this
  | skip=>have:=hK _ _ h;rwa [put_defers] at this
  | defer d=>have:=hK _ _ h;rw [put_defers] at this;cases this
  | enter f args=>
   obtain ⟨e,w2,fr,hr,_⟩:=h []
   cases e with
   | returned v=>have:=hK _ _ hr;rwa [put_defers] at this
   | panicked c=>exact absurd hr (hQ.F0 _ _ _)
   | outgrown=>exact absurd hr hQ.out
  | row row args=>
   obtain ⟨v,w2,hr,_⟩:=h default []
   have:=hK _ _ hr;rwa [put_defers] at this
  | _=>exact h.elim
 | halt x w'=>
  cases x with
  | panic v=>exact absurd h (hQ.F0 _ _ _)
  | _=>exact h.elim
def iG (o:Oper):Bool:=match o.op with
 | .defer _=>false
 | _=>true
theorem Ei {o:Oper} (h:iG o=true):∀c,o.op≠.defer c:=by
 intro c e;unfold iG at h;rw [e] at h;cases h
theorem IL (hF:gJ F) (hQ:pr Q) {o:Oper} (hnd:iG o=true) {K K':Act->World->Prop} {ds:List Deferred} (hK:∀a w,K a w->a.defers = []) (hK':∀a w,K a w->K' (gu ds a) w) {a:Act} {w:World}
  (h:o.wp P a w K Q):o.wpIn F n P (gu ds a) w K' Q':=by
 refine ⟨fun f _=>hF.fn f,?_⟩
 rw [Oper.semAt_eq _ _ _ (Ei hnd),Al]
 unfold Oper.wp at h
 have hb:=vV (P:=P) hQ hK (o:=o) (a:=a) (w:=w) h
 generalize (execOp a.eval o).run P w=r at h
 cases r with
 | ok x w'=>
  cases x with
  | value v=>simp only [Oper.uponIn,l8];exact hK' _ _ h
  | skip=>simp only [Oper.uponIn,l8];exact hK' _ _ h
  | defer d=>have:=hK _ _ h;rw [put_defers] at this;cases this
  | enter f args=>
   simp only [Oper.uponIn]
   refine ⟨fun e=>absurd e hF.deep,hF.calls (Calls.mono h fun e w2 hr => ?_)⟩
   cases e with
   | returned v=>simp only [l8];exact hK' _ _ hr
   | panicked c=>exact absurd hr (hQ.F0 _ _ _)
   | outgrown=>exact absurd hr hQ.out
  | row row args=>
   simp only [Oper.uponIn]
   refine ⟨fun e=>absurd e hF.deep,hF.rows (Rows.mono h fun v w2 hr => ?_)⟩
   simp only [l8];exact hK' _ _ hr
  | _=>exact h.elim
 | halt x w'=>
  cases x with
  | panic v=>exact absurd h (hQ.F0 _ _ _)
  | _=>exact h.elim
theorem qR (hQ:pr Q) {ops:Array Oper}:∀(l:List Oper) (a:Act) (w:World),wpList P ops Q l a w->a.defers = []
 | [],a,w,h=>hQ.bare _ _ _ h
 | o :: r,a,w,h=>by
  unfold wpList at h
  split at h
  ·rcases h with h | ⟨_,h⟩
   ·exact vV hQ (fun a w h=>qR hQ r a w h) h
   ·exact absurd h hQ.out
  ·have:=qR hQ r _ _ h;rwa [put_defers] at this
theorem vW (hF:gJ F) (hQ:pr Q) {ds:List Deferred} (hE:∀a w,Q .normal a w->Q' .normal (gu ds a) w) {ops:Array Oper}:∀(l:List Oper) (_:l.all iG=true) (a:Act) (w:World),wpList P ops Q l a w->wpListIn F n P ops Q' l (gu ds a) w
 | [],_,a,w,h=>hE a w h
 | o :: r,hl,a,w,h=>by
  simp only [List.all_cons,Bool.and_eq_true] at hl
  unfold wpListIn
  unfold wpList at h
  rw [Am]
  split
  ·rename_i hw
   rw [if_pos hw] at h
   rcases h with h | ⟨_,h⟩
   ·exact IL hF hQ hl.1 (fun a w h=>qR hQ r a w h) (fun a w h=>vW hF hQ hE r hl.2 a w h) h
   ·exact absurd h hQ.out
  ·rename_i hw
   rw [if_neg hw] at h
   refine ⟨fun f _=>hF.fn f,?_⟩
   rw [l8];exact vW hF hQ hE r hl.2 _ _ h
theorem F1 (hQ:pr Q) {ops:Array Oper} {i:Nat} {K:Act->World->Prop} (hK:∀a w,K a w->a.defers = []) {a:Act} {w:World} (h:wpOp P ops Q i K a w):a.defers = []:=by
 unfold wpOp at h
 split at h
 ·exact hK _ _ h
 ·split at h
  ·rcases h with h | ⟨_,h⟩
   ·exact vV hQ hK h
   ·exact absurd h hQ.out
  ·have:=hK _ _ h;rwa [put_defers] at this
theorem An (hQ:pr Q) {ops:Array Oper} {md:Region.Mode}:∀(n:Nat) (L:Array Bool) (a:Act) (w:World),wpAny P md ops Q n L a w->a.defers = []
 | 0,_,_,_,h=>hQ.bare _ _ _ h.2
 | n + 1,L,a,w,h=>by
  cases hr:Region.ready md ops L with
  | nil=>exact hQ.bare _ _ _ (h.1 hr)
  | cons i r=>exact F1 hQ (fun a w h=>An hQ n _ a w h) (h.2 i (by rw [hr];simp))
theorem Jm (hF:gJ F) (hQ:pr Q) {ops:Array Oper} (hl:ops.toList.all iG=true) {ds:List Deferred} {i:Nat} {K K':Act->World->Prop} (hK:∀a w,K a w->a.defers = []) (hK':∀a w,K a w->K' (gu ds a) w) {a:Act} {w:World}
  (h:wpOp P ops Q i K a w):wpOpIn F n P ops Q' i K' (gu ds a) w:=by
 unfold wpOpIn
 unfold wpOp at h
 split
 ·rename_i hi;simp only [hi] at h;exact hK' _ _ h
 ·rename_i o hi
  simp only [hi] at h
  have ho:iG o=true:=List.all_eq_true.1 hl o (by rw [<-Array.getElem?_toList] at hi;exact List.mem_of_getElem? hi)
  rw [Am]
  split
  ·rename_i hw
   rw [if_pos hw] at h
   rcases h with h | ⟨_,h⟩
   ·exact IL hF hQ ho hK hK' h
   ·exact absurd h hQ.out
  ·rename_i hw
   rw [if_neg hw] at h
   refine ⟨fun f _=>hF.fn f,?_⟩
   rw [l8];exact hK' _ _ h
theorem F2 (hF:gJ F) (hQ:pr Q) {ds:List Deferred} (hE:∀a w,Q .normal a w->Q' .normal (gu ds a) w) {ops:Array Oper} (hl:ops.toList.all iG=true) {md:Region.Mode}:∀(k:Nat) (L:Array Bool) (a:Act) (w:World),wpAny P md ops Q k L a w->wpAnyIn F n P md ops Q' k L (gu ds a) w
 | 0,_,_,_,h=>⟨h.1,hE _ _ h.2⟩
 | k + 1,L,a,w,h=>⟨fun e=>hE _ _ (h.1 e),fun i hi=>Jm hF hQ hl (fun a w h=>An hQ k _ a w h) (fun a w h=>F2 hF hQ hE hl k _ a w h) (h.2 i hi)⟩
end
def eS:Code->Bool
 | .skip=>true
 | .region _ ops _=>ops.toList.all iG
 | .seq a b=>eS a && eS b
 | .cond _ a b=>eS a && eS b
 | .block _ b=>eS b
 | .exit _=>true
 | .ret=>true
 | _=>false
section
variable {X:Ext} {P:Program} {cx:Cx} {F:Fence} {n:Nat}
def sC (ds:List Deferred) (Q:Exit->Act->World->Prop):Exit->Act->World->Prop:=fun e a w=>∃a',a=gu ds a'/\a'.defers = []/\Q e a' w
theorem tx {O:ah} {K:Ex->St->VC} {W:List Nat} {st:St} {S:aH}:pr (dO cx X O K W st S) where
 bare e a w h:=by
  cases e with
  | normal=>obtain ⟨_,_,_,_,_,k,_⟩:=h;exact k.defers
  | exit i=>obtain ⟨_,_,_,_,_,k,_⟩:=h;exact k.defers
  | ret=>obtain ⟨_,_,_,_,_,k,_⟩:=h;exact k.defers
  | goto l=>exact h.elim
  | panic c=>exact h.elim
  | outgrown=>exact h.elim
 F0 c a w h:=h.elim
 out h:=let ⟨_,_,hh⟩:=h;hh.elim
theorem dO.on {O:ah} {K:Ex->St->VC} {W:List Nat} {st:St} {S:aH} {ds:List Deferred} {e:Exit} {a:Act} {w:World} (h:dO cx X O K W st S e a w):sC ds (dO cx X O K W st S) e (gu ds a) w:=⟨a,rfl,tx.bare _ _ _ h,h⟩
theorem Ky (hok:fw P cx X) (hF:gJ F) (ds:List Deferred) {O:ah} {id:Nat} {ops:Array Oper} {draw:Bool} (hl:ops.toList.all iG=true) {st:St} {loc:Nat->Loc} {w:World} {a:Act} {K:Ex->St->VC} (hA:cw cx (ae O st loc w) st a) (g:Good cx.eT X (ae O st loc w)) (hO:bZ O w)
  (h:(rA cx ops draw st (K .normal)).holds):(Code.region id ops draw).wpIn F n P (sC ds (dO cx X O K (bM ops.toList) st (ae O st loc w))) (gu ds a) w:=by
 have hW:∀(j:Nat) (oj:Oper) (d:Nat),ops[j]?=some oj->oj.dst=some d->d∈bM ops.toList:=by
  intro j oj d hj hd
  exact List.mem_filterMap.2 ⟨oj,by rw [<-Array.getElem?_toList] at hj;exact List.mem_of_getElem? hj,hd⟩
 have hq:∀st' loc' a' w',(K .normal st').holds->Good cx.eT X (ae O st' loc' w')->Tr (ae O st loc w) (ae O st' loc' w')->cw cx (ae O st' loc' w') st' a'->ir (bM ops.toList) st st'->
   dO cx X O K (bM ops.toList) st (ae O st loc w) .normal a' w':=fun st' loc' a' w' h1 h2 h3 h4 h5=>⟨st',loc',h1,h2,h3,h4,h5⟩
 unfold rA at h
 cases draw with
 | false=>
  refine wpIn_region_list (vW hF tx (fun a w h=>h.on) _ hl _ _ ?_)
  exact r5 hok hW ops.toList (fun o ho d hd=>List.mem_filterMap.2 ⟨o,ho,hd⟩) hA g hO h hq
 | true=>
  split at h
  ·rename_i e;cases e
  ·rename_i e
   split at h
   ·rename_i hreg
    rw [Cs] at h
    refine wpIn_region_any hok.mixed (F2 hF tx (fun a w h=>h.on) hl _ _ _ _ (vL (loud:=eK cx ops.toList) _ _ _ _ (ae O st loc {w with drawn:=w.drawn + 1}).A ?_))
    have hdrew:Below w.heap.size w {w with drawn:=w.drawn + 1}:=⟨rfl,rfl,Nat.le_refl _,fun _ _=>rfl⟩
    obtain ⟨tr,g'⟩:=jE (S:=ae O st loc w) (S':=ae O st loc {w with drawn:=w.drawn + 1}) g rfl rfl rfl rfl hdrew
    refine r6 hok hW hreg (fun c a w h=>h) ops.size _ ?_ ⟨hA.size,hA.defers,hA.env.tr tr⟩ g' (hO.tr (Nat.le_refl _)) h ?_
    ·intro j o ho hj
     rw [Array.getD_eq_getD_getElem?,Array.getElem?_replicate] at hj
     split at hj <;> simp at hj
    ·intro st' loc' a' w' h1 h2 h3 h4 h5
     obtain ⟨st2,loc2,k1,k2,k3,k4,k5⟩:=cB.K2 (K:=K .normal) (f:=canon st.next (bM ops.toList)) (W:=bM ops.toList) hA (fun st'=>by
      rcases uw st.next (bM ops.toList) st' with e | ⟨r,q,k1,k2⟩
      ·exact .inl e
      ·exact .inr ⟨r,q,k1,k2⟩) (⟨st',loc',h1,h2,tr.trans h3,h4,h5⟩:cB cx X O (fun st'=>K .normal (canon st.next (bM ops.toList) st')) (bM ops.toList) st (ae O st loc w) a' w')
     exact hq st2 loc2 a' w' k1 k2 k3 k4 k5
   ·exact h.elim
theorem sC.mono {ds:List Deferred} {Q Q':Exit->Act->World->Prop} (h:∀e a w,Q e a w->Q' e a w) {e:Exit} {a:Act} {w:World} (hq:sC ds Q e a w):sC ds Q' e a w:=let ⟨a',k1,k2,k3⟩:=hq;⟨a',k1,k2,h _ _ _ k3⟩
theorem qS (hok:fw P cx X) (hF:gJ F) (ds:List Deferred) {O:ah}:∀(c:Code) (cur:Nat) (_:eS c=true) {st:St} {loc:Nat->Loc} {w:World} {a:Act} {K:Ex->St->VC},
  cw cx (ae O st loc w) st a->Good cx.eT X (ae O st loc w)->bZ O w->(vc cx [] c cur st K).holds->c.wpIn F n P (sC ds (dO cx X O K (writes [] cur c) st (ae O st loc w))) (gu ds a) w:=by
 intro c
 induction c with
 | skip=>intro cur _ st loc w a K hA g hO h;exact wpIn_skip (dO.on ⟨st,loc,h,g,Tr.refl _,hA,fun _ _ _ _ h=>h⟩)
 | region id ops draw=>
  intro cur hs st loc w a K hA g hO h
  exact Ky hok hF ds hs hA g hO h
 | seq c1 c2 ih1 ih2=>
  intro cur hs st loc w a K hA g hO h
  simp only [eS,Bool.and_eq_true] at hs
  refine wpIn_seq ?_
  refine wpIn_mono (ih1 cur hs.1 hA g hO h) ?_
  rintro e a0 w' ⟨a',rfl,hb,hq⟩
  have key:∀e,e≠.normal->dO cx X O (fun e st'=>match e with
   | .normal=>vc cx [] c2 cur st' K
   | e=>K e st') (writes [] cur c1) st (ae O st loc w) e a' w'->sC ds (dO cx X O K (writes [] cur (.seq c1 c2)) st (ae O st loc w)) e (gu ds a') w':=by
   intro e he hq
   refine dO.on (dO.mono (W:=writes [] cur c1) (st1:=st) (S1:=ae O st loc w) ?_ (Tr.refl _) (fun _ _ _ _ h=>h) (fun n hn=>List.mem_append.2 (.inl hn)))
   cases e with
   | normal=>exact absurd rfl he
   | exit i=>exact hq
   | ret=>exact hq
   | goto l=>exact hq.elim
   | panic c=>exact hq.elim
   | outgrown=>exact hq.elim
  cases e with
  | normal=>
   obtain ⟨st',loc',k1,k2,k3,k4,k5⟩:=hq
   refine wpIn_mono (ih2 cur hs.2 k4 k2 (hO.tr k3.size) k1) ?_
   intro e a2 w2 hq2
   exact hq2.mono fun e a w hq=>hq.mono k3 (W':=writes [] cur (.seq c1 c2)) (fun hm t ht=>k5 (fun h=>hm (List.mem_append.2 (.inl h))) t fun hm=>ht (List.mem_append.2 (.inl hm))) (fun n hn=>List.mem_append.2 (.inr hn))
  | exit i=>exact key _ (by simp) hq
  | ret=>exact key _ (by simp) hq
  | goto l=>exact hq.elim
  | panic c=>exact hq.elim
  | outgrown=>exact hq.elim
 | cond x c1 c2 ih1 ih2=>
  intro cur hs st loc w a K hA g hO h
  simp only [eS,Bool.and_eq_true] at hs
  have hx:=aK hA.env x
  have h1:∀{K},(vc cx [] c1 cur st K).holds->c1.wpIn F n P (sC ds (dO cx X O K (writes [] cur (.cond x c1 c2)) st (ae O st loc w))) (gu ds a) w:=fun h=>
   wpIn_mono (ih1 cur hs.1 hA g hO h) fun e a' w' hq=>hq.mono fun e a w hq=>hq.mono (Tr.refl _) (fun _ _ _ _ h=>h) (fun n hn=>List.mem_append.2 (.inl hn))
  have h2:∀{K},(vc cx [] c2 cur st K).holds->c2.wpIn F n P (sC ds (dO cx X O K (writes [] cur (.cond x c1 c2)) st (ae O st loc w))) (gu ds a) w:=fun h=>
   wpIn_mono (ih2 cur hs.2 hA g hO h) fun e a' w' hq=>hq.mono fun e a w hq=>hq.mono (Tr.refl _) (fun _ _ _ _ h=>h) (fun n hn=>List.mem_append.2 (.inr hn))
  have hev:(gu ds a).eval x=a.eval x:=by rw [Al]
  have h':(match bP st.env x with
    | .lit true=>vc cx [] c1 cur st K
    | .lit false=>vc cx [] c2 cur st K
    | .d .bool g => .ite g (vc cx [] c1 cur st K) (vc cx [] c2 cur st K)
    | _ => .ff).holds:=h
  split at h'
  ·rename_i hl;rw [hl] at hx;exact wpIn_cond_true (hev.trans hx) (h1 h')
  ·rename_i hl;rw [hl] at hx;exact wpIn_cond_false (hev.trans hx) (h2 h')
  ·rename_i b hl
   rw [hl] at hx
   have hx:=(bX (eT:=cx.eT) (S:=ae O st loc w) (b:=b)).1 hx
   cases b
   ·exact wpIn_cond_false (hev.trans hx) (h2 (h'.2 rfl))
   ·exact wpIn_cond_true (hev.trans hx) (h1 (h'.1 rfl))
  ·exact h'.elim
 | block id b ih=>
  intro cur hs st loc w a K hA g hO h
  refine wpIn_block ?_
  have h':(vc cx [] b id st fun e st'=>match e with
   | .exit i=>match Nat.beq i id with
    | true=>K .normal st'
    | false=>K (.exit i) st'
   | e=>K e st').holds:=h
  refine wpIn_mono (ih id hs hA g hO h') ?_
  rintro e a0 w' ⟨a',rfl,hb,hq⟩
  cases e with
  | normal=>exact dO.on hq
  | exit i=>
   obtain ⟨st',loc',k1,k2,k3,k4,k5⟩:=hq
   simp only at k1
   show if i=id then _ else _
   split at k1
   ·rename_i hi
    rw [if_pos (Nat.eq_of_beq_eq_true hi)]
    exact dO.on ⟨st',loc',k1,k2,k3,k4,k5⟩
   ·rename_i hi
    rw [if_neg (fun e=>by rw [e,Nat.beq_refl] at hi;cases hi)]
    exact dO.on ⟨st',loc',k1,k2,k3,k4,k5⟩
  | ret=>exact dO.on hq
  | goto l=>exact hq.elim
  | panic c=>exact hq.elim
  | outgrown=>exact hq.elim
 | exit id=>intro cur _ st loc w a K hA g hO h;exact wpIn_exit (dO.on ⟨st,loc,h,g,Tr.refl _,hA,fun _ _ _ _ h=>h⟩)
 | ret=>intro cur _ st loc w a K hA g hO h;exact wpIn_ret (dO.on ⟨st,loc,h,g,Tr.refl _,hA,fun _ _ _ _ h=>h⟩)
 | _=>intro cur hs;cases hs
end
end Go.Vg

namespace Go.Vg
open Go.RowKit
structure mC (B:Nat) (W W':World):Prop where
 os:W'.os=W.os
 output:W'.output=W.output
 size:W.heap.size<=W'.heap.size
 below:∀k,k < B->k < W.heap.size->W'.heap[k]?=W.heap[k]?
 cells:∀(k:Nat) (o:Obj),W.heap[k]?=some o->o.isCells=true->W'.heap[k]?=W.heap[k]?
theorem mC.of {B:Nat} {W W':World} {row:Option Nat} (hg:W.grownBy W' row) (hr:∀r,row=some r->B<=r/\∃o:Obj,W.heap[r]?=some o/\o.isCells=false):mC B W W':=
 ⟨hg.os,hg.output,hg.size,fun k h1 h2=>hg.block k h2 (fun e=>by have:=(hr k e.symm).1;omega),fun k o hk hc=>grownBy_keeps_cells hg (fun r e=>(hr r e).2) hk hc⟩
theorem mC.cell {B:Nat} {W W':World} (h:mC B W W') {b o:Nat} {v:Value} (hc:W.cell? ⟨b,o,none⟩=some v):W'.cell? ⟨b,o,none⟩=some v:=by
 obtain ⟨ob,ho,hcs⟩:=cells_of_cell hc
 exact (World.cell?_of_block (h.cells _ ob ho hcs)).trans hc
def plainO:OC->Bool
 | .cells _ _=>true
 | .ax _ _=>true
 | .arr _ _=>true
 | .tok _ _=>true
 | .ext k _ _=>Nat.beq k 0 || Nat.beq k 2
 | .iter _ _ _=>false
def iW:List (Nat × OC)->Bool
 | []=>true
 | (_,oc) :: r=>plainO oc && iW r
theorem gC:∀{l:List (Nat × OC)},iW l=true->∀{n:Nat} {oc:OC},look l n=some oc->plainO oc=true
 | [],_,_,_,h=>by simp [look] at h
 | (m,x) :: r,hp,n,oc,h=>by
  simp only [iW,Bool.and_eq_true] at hp
  rw [aU] at h
  split at h
  ·cases h;exact hp.1
  ·exact gC hp.2 h
section
variable {eT:TypeId} {X:Ext}
theorem CR.gb {S S':aH} (hob:S'.ob=S.ob) (hloc:S'.loc=S.loc) (hn:S'.next=S.next) (hc:∀b o v,¬ S.A b o->S.w.cell? ⟨b,o,none⟩=some v->S'.w.cell? ⟨b,o,none⟩=some v/\¬ S'.A b o)
  {c:C} {v:Value} (h:CR eT S c v):CR eT S' c v:=by
 cases c with
 | d t x=>exact VR.frame h hc
 | app t xs n=>obtain ⟨h1,h2,h3⟩:=h;exact ⟨VR.frame h1 hc,by rw [hn];exact h2,by rw [hob,hloc];exact h3⟩
 | jm t x=>obtain ⟨b,o,us,rfl,h1,h2⟩:=h;exact ⟨b,o,us,rfl,h1.frame hc,h2.frame hc⟩
 | fn f caps=>simp only [CR,aH.fixed,hob,hloc,hn] at h ⊢;exact h
 | _=>simp only [CR,hob,hloc,hn] at h ⊢ <;> exact h
theorem bR.gb {S S':aH} (hob:S'.ob=S.ob) (hloc:S'.loc=S.loc) (hn:S'.next=S.next) (hc:∀b o v,¬ S.A b o->S.w.cell? ⟨b,o,none⟩=some v->S'.w.cell? ⟨b,o,none⟩=some v/\¬ S'.A b o)
  {cs:List C} {vs:List Value} (h:bR eT S cs vs):bR eT S' cs vs:=by
 induction h with
 | nil=>exact .nil
 | cons h1 h2 _ ih=>exact .cons (h1.gb hob hloc hn hc) h2 ih
theorem dr.gb {S S':aH} (hob:S'.ob=S.ob) (hloc:S'.loc=S.loc) (hn:S'.next=S.next) (hc:∀b o v,¬ S.A b o->S.w.cell? ⟨b,o,none⟩=some v->S'.w.cell? ⟨b,o,none⟩=some v/\¬ S'.A b o)
  {x:aZ} {v:Value} (h:dr eT S x v):dr eT S' x v:=by
 cases x with
 | one c=>exact CR.gb hob hloc hn hc h
 | agg cs=>obtain ⟨vs,rfl,h1⟩:=h;exact ⟨vs,rfl,h1.gb hob hloc hn hc⟩
theorem bc.gb {S S':aH} (hob:S'.ob=S.ob) (hloc:S'.loc=S.loc) (hn:S'.next=S.next) (hc:∀b o v,¬ S.A b o->S.w.cell? ⟨b,o,none⟩=some v->S'.w.cell? ⟨b,o,none⟩=some v/\¬ S'.A b o)
  {xs:List aZ} {vs:List Value} (h:bc eT S xs vs):bc eT S' xs vs:=by
 induction h with
 | nil=>exact .nil
 | cons h1 _ ih=>exact .cons (h1.gb hob hloc hn hc) ih
theorem bH.gb {S S':aH} (hob:S'.ob=S.ob) (hloc:S'.loc=S.loc) (hn:S'.next=S.next) (hc:∀b o v,¬ S.A b o->S.w.cell? ⟨b,o,none⟩=some v->S'.w.cell? ⟨b,o,none⟩=some v/\¬ S'.A b o)
  {x:SV} {v:Value} (h:bH eT S x v):bH eT S' x v:=by
 cases x with
 | s x=>exact dr.gb hob hloc hn hc h
 | gK xs=>obtain ⟨vs,rfl,h1⟩:=h;exact ⟨vs,rfl,h1.gb hob hloc hn hc⟩
theorem OR.gb {S S':aH} (hob:S'.ob=S.ob) (hloc:S'.loc=S.loc) (hn:S'.next=S.next) (hc:∀b o v,¬ S.A b o->S.w.cell? ⟨b,o,none⟩=some v->S'.w.cell? ⟨b,o,none⟩=some v/\¬ S'.A b o)
  {l:Loc} {oc:OC} (hb:∀b,b∈l.bs->S'.w.heap[b]?=S.w.heap[b]?) (ho:OR eT X S l oc):OR eT X S' l oc:=by
 have he:∀{t:Ty} {xs:List (D t)} {vs:Array Value},eX eT S t xs vs->eX eT S' t xs vs:=fun h i y hy=>let ⟨us,h1,h2⟩:=h i y hy;⟨us,h1.frame hc,h2⟩
 cases oc with
 | cells T cs=>
  obtain ⟨b,vs,h1,h2,h3,h4⟩:=ho
  exact ⟨b,vs,h1,h2,by rw [hb b (by simp [h2])];exact h3,h4.gb hob hloc hn hc⟩
 | ax t xs=>
  rcases ho with ho | ⟨b,vs,T,cap,h1,h2,h3,h4,h5,h6,h7⟩
  ·exact .inl ho
  ·exact .inr ⟨b,vs,T,cap,h1,h2,by rw [hb b (by simp [h2])];exact h3,h4,h5,h6,he h7⟩
 | arr t xs=>
  obtain ⟨b,vs,T,h1,h2,h3,h4,h5⟩:=ho
  exact ⟨b,vs,T,h1,h2,by rw [hb b (by simp [h2])];exact h3,h4,he h5⟩
 | tok t xs=>
  rcases ho with ho | ⟨b,vs,T,cap,h1,h2,h3,h4,h5,h6,h7⟩
  ·exact .inl ho
  ·exact .inr ⟨b,vs,T,cap,h1,h2,by rw [hb b (by simp [h2])];exact h3,h4,h5,h6,he h7⟩
 | ext k t x=>exact X.frame ho hb
 | iter cs seen cl=>
  obtain ⟨b,m,c,sn,h1,h2,h3,h4,h5,h6⟩:=ho
  exact ⟨b,m,c,sn,h1,h2,by rw [hb b (by simp [h2])];exact h3,h4.gb hob hloc hn hc,h5,h6⟩
theorem OR.F3 {S:aH} {l:Loc} {oc:OC} (hp:plainO oc=true) (ho:OR eT X S l oc):∀b∈l.bs,∃vs T fz,S.w.heap[b]?=some (.cells vs T fz):=by
 intro b hb
 cases oc with
 | cells T cs=>obtain ⟨b',vs,_,h2,h3,_⟩:=ho;rw [h2] at hb;simp at hb;subst hb;exact ⟨_,_,_,h3⟩
 | ax t xs=>
  rcases ho with ⟨_,_,h⟩ | ⟨b',vs,T,cap,_,h2,h3,_⟩
  ·rw [h] at hb;simp at hb
  ·rw [h2] at hb;simp at hb;subst hb;exact ⟨_,_,_,h3⟩
 | arr t xs=>obtain ⟨b',vs,T,_,h2,h3,_⟩:=ho;rw [h2] at hb;simp at hb;subst hb;exact ⟨_,_,_,h3⟩
 | tok t xs=>
  rcases ho with ⟨_,_,h⟩ | ⟨b',vs,T,cap,_,h2,h3,_⟩
  ·rw [h] at hb;simp at hb
  ·rw [h2] at hb;simp at hb;subst hb;exact ⟨_,_,_,h3⟩
 | ext k t x=>
  simp only [plainO,Bool.or_eq_true] at hp
  rcases hp with hp | hp
  ·have:=Nat.eq_of_beq_eq_true hp
   subst this
   have hd:eW t x l S.w:=X.deep.1 ho
   cases t with
   | slice e=>
    obtain ⟨s,_,top,hs,_,⟨_,_,_,h⟩ | ⟨b',vs,T,cap,cs,_,h2,h3,_,_,_,h4⟩⟩:=hd
    ·rw [h] at hb;simp at hb
    ·rw [h2] at hb
     rcases List.mem_cons.1 hb with rfl | hb
     ·exact ⟨_,_,_,h3⟩
     ·obtain ⟨c,hc,hcb⟩:=List.mem_filterMap.1 hb
      simp at hcb;subst hcb
      obtain ⟨i,hi⟩:=List.getElem?_of_mem hc
      obtain ⟨_,vs',T',h5⟩:=h4.rS i b hi
      exact ⟨_,_,_,h5⟩
   | _=>exact hd.elim
  ·have:=Nat.eq_of_beq_eq_true hp
   subst this
   obtain ⟨rfl,b',p,v,h⟩:=X.EO.1 ho
   rw [h.bs] at hb
   rcases List.mem_cons.1 hb with rfl | hb
   ·exact ⟨_,_,_,h.heap⟩
   ·rcases h.row.2 with ⟨rfl,_⟩ | ⟨g,cap,cur,rfl,_,hg,_⟩
    ·simp [Value.ownBlock] at hb
    ·simp [Value.ownBlock] at hb;subst hb;exact ⟨_,_,_,hg⟩
 | iter cs seen cl=>cases hp
theorem qT {S:aH} {W':World} {B:Nat} (g:Good eT X S) (hb:mC B S.w W') (hp:∀n oc,S.ob n=some oc->plainO oc=true) (hg:∀b∈X.wy,b < B):Good eT X {S with w:=W'} where
 obj n oc h:=⟨(g.obj n oc h).1,OR.gb (S:=S) (S':={S with w:=W'}) rfl rfl rfl (fun b o v ha hc=>⟨hb.cell hc,ha⟩) (fun b hbm=>let ⟨_,_,_,e⟩:=(g.obj n oc h).2.F3 (hp n oc h) b hbm;hb.cells b _ e rfl) (g.obj n oc h).2⟩
 apart:=g.apart
 out:=g.out
 eE:=⟨X.tR g.eE.1 fun b hbm=>hb.below b (hg b hbm) (X.yu g.eE.1 b hbm),g.eE.2⟩
theorem vX {S0 S:aH} {W':World} {B:Nat} (t:Tr S0 S) (hb:mC B S.w W') (hB:S0.w.heap.size<=B):Tr S0 {S with w:=W'} where
 O:=t.O
 next:=t.next
 os:=hb.os.trans t.os
 output:=hb.output.trans t.output
 size:=Nat.le_trans t.size hb.size
 own:=t.own
 cell b o v ha hc:=let ⟨h1,h2⟩:=t.cell b o v ha hc;⟨hb.cell h1,h2⟩
 block b hlt ho:=(hb.below b (Nat.lt_of_lt_of_le hlt hB) (Nat.lt_of_lt_of_le hlt t.size)).trans (t.block b hlt ho)
 loc:=t.loc
 kind:=t.kind
theorem tz {S:aH} {W':World} {B:Nat} {env:List (Nat × SV)} {a:Act} (h:cJ eT S env a) (hb:mC B S.w W'):cJ eT {S with w:=W'} env a:=
 fun t sv ht=>bH.gb (S:=S) (S':={S with w:=W'}) rfl rfl rfl (fun b o v ha hc=>⟨hb.cell hc,ha⟩) (h t sv ht)
theorem xj {S:aH} (g:Good eT X S) (hp:∀n oc,S.ob n=some oc->plainO oc=true) {k:Nat} {o:Obj} (hk:S.w.heap[k]?=some o) (ho:o.isCells=false):¬ S.owns k:=by
 rintro ⟨n,oc,h1,h2⟩
 obtain ⟨vs,T,fz,e⟩:=(g.obj n oc h1).2.F3 (hp n oc h1) k h2
 rw [hk] at e;cases e;cases ho
end
def ct (an:eI) (st:St) (us:List Nat) (x:an.X):St:=
 {env:=nZ an (an.pd x) us an.refs++lQ an st x,ag:=fq (cM an.ak (an.pd x) us) an.ak (an.pd x) us++fT an st x,next:=st.next + an.ak.length}
def pw:List Ob->List Nat->List Nat->Bool
 | o :: os,n0 :: ns0,n :: ns=>(match iy o o with | true=>Nat.beq n n0 | false=>true) && pw os ns0 ns
 | _,_,_=>true
theorem xk:∀{ak:List Ob} {ν0 ν:List Nat} {i n0 n:Nat} {o:Ob},pw ak ν0 ν=true->ak[i]?=some o->iy o o=true->ν0[i]?=some n0->ν[i]?=some n->n=n0
 | [],_,_,_,_,_,_,_,h,_,_,_=>by simp at h
 | _ :: _,[],_,_,_,_,_,_,_,_,h,_=>by simp at h
 | _ :: _,_ :: _,[],_,_,_,_,_,_,_,_,h=>by simp at h
 | a :: os,m0 :: ns0,m :: ns,0,n0,n,o,h,h1,h2,h3,h4=>by
  simp at h1 h3 h4
  subst h1;subst h3;subst h4
  simp only [pw,h2,Bool.and_eq_true] at h
  exact Nat.eq_of_beq_eq_true h.1
 | a :: os,m0 :: ns0,m :: ns,i + 1,n0,n,o,h,h1,h2,h3,h4=>by
  simp only [pw,Bool.and_eq_true] at h
  exact xk h.2 (by simpa using h1) h2 (by simpa using h3) (by simpa using h4)
def uY (an:eI) (ν0:List Nat) (st st':St) (more:an.X->Prop):VC:=
 match qw st' an with
 | some ν=>match nodupB ν && (nY st' an ν an.refs && pw an.ak ν0 ν),bS false st'.ag an.ak ν an.ak ν with
  | true,some y => .leaf (zC (ry st' an y an.refs++dA an.ak y st'.ag an.ak ν++[∃x',an.inv x'/\more x'/\gm st' (an.ba x')/\gn st' (an.ag x'++dw st an.cL)/\(jz ν (fT an st x')=true/\y=an.pd x')]))
  | _,_ => .ff
 | none => .ff
theorem uZ {an:eI} {ν0:List Nat} {st st':St} {more:an.X->Prop} (h:(uY an ν0 st st' more).holds):∃x,an.inv x/\more x/\∃ν,zH an st st' x ν/\pw an.ak ν0 ν=true:=by
 unfold uY at h
 split at h
 ·rename_i ν _
  split at h
  ·rename_i y hc hy
   simp only [Bool.and_eq_true] at hc
   have hall:=oU h
   obtain ⟨x,h1,h2,h3,h4,h5,h6⟩:=hall (∃x',an.inv x'/\more x'/\gm st' (an.ba x')/\gn st' (an.ag x'++dw st an.cL)/\(jz ν (fT an st x')=true/\y=an.pd x')) (List.mem_append_right _ (List.mem_singleton.2 rfl))
   subst h6
   obtain ⟨k1,_⟩:=dH.1 hall
   obtain ⟨k1,k2⟩:=dH.1 k1
   exact ⟨x,h1,h2,ν,⟨hc.1,hc.2.1,hy,k1,k2,h3,h4,h5⟩,hc.2.2⟩
  ·exact h.elim
 ·exact h.elim
theorem xl {ag:List (Nat × OC)} {ak:List Ob} {ν:List Nat} {o:Ob} {y:OD o} {oc:OC} {f:Nat->C} {l:Loc} (hk:iy o o=true) (h:dV false ag ak ν o oc=some y):aw l l oc (kx f o y):=by
 cases o with
 | box T cls=>obtain ⟨cs,rfl⟩:=(fJ h (fun _ => .any)).1 _ _ rfl;rfl
 | row k t=>
  obtain ⟨xs,rfl⟩:=(fJ h (fun _ => .any)).2.2.1 _ _ rfl rfl
  cases k with
  | true=>rfl
  | false=>cases hk
 | tok t=>cases hk
 | ext k t=>obtain ⟨x,rfl⟩:=(fJ h (fun _ => .any)).2.1 _ _ rfl;exact ⟨rfl,rfl⟩
section
variable {X:Ext} {cx:Cx}
theorem F4 {an:eI} {O:ah} {st st':St} {loc loc0:Nat->Loc} {w w0:World} {a:Act} {W us ν:List Nat} (x:an.X) (hus:nodupB us=true) (husl:us.length=an.ak.length) (husm:∀n∈us,n < st.next + an.ak.length) (hsel:∀(i m:Nat),us[i]?=some m->st.next<=m\/(ν[i]?=some m/\∃o,an.ak[i]?=some o/\iy o o=true)) (g:Good cx.eT X (ae O st' loc w)) (hA:cw cx (ae O st' loc w) st' a) (ht:Tr (ae O st loc0 w0) (ae O st' loc w))
  (hok:iU an st W x=true) (hkeep:∀n∈an.keep,∀v,look st.env n=some v->∃u,look st'.env n=some u/\gT u v) (hf:zH an st st' x ν) :
  ∃loc',Good cx.eT X (ae O (ct an st us x) loc' w)/\cw cx (ae O (ct an st us x) loc' w) (ct an st us x) a/\Tr (ae O st loc0 w0) (ae O (ct an st us x) loc' w):=by
 simp only [iU,Bool.and_eq_true] at hok
 obtain ⟨hb1,hb2,hkeys,hnr⟩:=hok
 have hlen:ν.length=us.length:=by rw [husl];exact (iu hf.get).symm
 let loc':=b4 us (ν.map loc) loc
 have hkept:∀(i n:Nat),n < st.next->us[i]?=some n->ν[i]?=some n/\∃o,an.ak[i]?=some o/\iy o o=true:=fun i n hn hi=>(hsel i n hi).resolve_left (by omega)
 have hlow:∀n,n < st.next->loc' n=loc n:=fun n hn=>by
  by_cases hm:n∈us
  ·obtain ⟨i,hi⟩:=List.getElem?_of_mem hm
   exact ej hus hi (by simp [(hkept i n hn hi).1])
  ·exact fI hm
 have hrest:∀m oc,look (fT an st x) m=some oc->m < st.next/\m∉ν/\∃u,look st'.ag m=some u/\aw (loc m) (loc m) u oc/\u.lo=oc.lo/\OR cx.eT X (ae O st' loc w) (loc m) oc:=by
  intro m oc hm
  obtain ⟨u,hu,hs⟩:=gx hf.ag hm
  obtain ⟨h1,h2,h3⟩:=o1 hs (g.obj m u hu).2
  exact ⟨(eB hb2 hm).1,mr hf.out hm,u,hu,h2,h3,h1⟩
 have hob:∀m oc,look (ct an st us x).ag m=some oc->(∃(i n:Nat) (o:Ob) (y:OD o) (oc0:OC),ν[i]?=some n/\us[i]?=some m/\an.ak[i]?=some o/\look st'.ag n=some oc0/\dV false st'.ag an.ak ν o oc0=some y/\
   oc=kx (cM an.ak (an.pd x) us) o y/\loc' m=loc n)\/(m∉us/\look (fT an st x) m=some oc/\loc' m=loc m):=by
  intro m oc hm
  simp only [ct,bB] at hm
  split at hm
  ·rename_i oc' hm'
   cases hm
   obtain ⟨i,n,o,y,oc0,k1,k2,k3,k4,k5,k6,_⟩:=jQ hf.get (jP (X:=X) g hf.get hf.get hf.conds) hlen hm'
   exact .inl ⟨i,n,o,y,oc0,k1,k2,k3,k4,k5,k6,ej hus k2 (by simp [k1])⟩
  ·rename_i hm'
   have hnin:m∉us:=fun hmem=>by
    obtain ⟨oc1,h2⟩:=jx (f:=cM an.ak (an.pd x) us) (x:=an.pd x) husl.symm hmem
    rw [h2] at hm';cases hm'
   exact .inr ⟨hnin,hm,fI hnin⟩
 have hAsub:∀b o,(ae O (ct an st us x) loc' w).A b o->(ae O st' loc w).A b o:=by
  rintro b off (h | ⟨m,oc,h1,h2,h3⟩)
  ·exact .inl h
  ·rcases hob m oc h1 with ⟨i,n,o,y,oc0,k1,k2,k3,k4,k5,k6,k7⟩ | ⟨k1,k2,k3⟩
   ·refine .inr ⟨n,oc0,k4,by simp only [ae] at h2;rw [k7] at h2;exact h2,?_⟩
    rcases ru (f:=cM an.ak (an.pd x) us) k5 with e | e
    ·rw [<-e,<-k6];exact h3
    ·cases e
   ·obtain ⟨_,_,u,hu,_,hlo,_⟩:=hrest m oc k2
    exact .inr ⟨m,u,hu,by simp only [ae] at h2;rw [k3] at h2;exact h2,by rw [hlo];exact h3⟩
 have hcell:∀b o v,¬ (ae O st' loc w).A b o->w.cell? ⟨b,o,none⟩=some v->w.cell? ⟨b,o,none⟩=some v/\¬ (ae O (ct an st us x) loc' w).A b o:=fun b o v h1 h2=>⟨h2,fun h=>h1 (hAsub b o h)⟩
 have hrel:∀{c:C} {v:Value},jR st.next c=true->CR cx.eT (ae O st' loc w) c v->CR cx.eT (ae O (ct an st us x) loc' w) c v:=fun hb hv=>
  sb (S:=ae O st' loc w) (S':=ae O (ct an st us x) loc' w) (k:=st.next) hcell (by simp [ae,ct]) (fun n hn=>hlow n hn) (fun n oc hn h=>by
   rcases hob n oc h with ⟨i,n',o,y,oc0,k1,k2,k3,k4,k5,k6,_⟩ | ⟨k1,k2,k3⟩
   ·obtain ⟨e1,o',e2,e3⟩:=hkept i n hn k2
    rw [k1] at e1;cases e1
    rw [k3] at e2;cases e2
    exact ⟨oc0,k4,by rw [k6];exact xl e3 k5⟩
   ·obtain ⟨_,_,u,hu,hk,_,_⟩:=hrest n oc k2
    exact ⟨u,hu,hk⟩) hb hv
 obtain ⟨gN,laid⟩:=ye (X:=X) g hf.get hf.conds hf.nodup (O2:=O) (ν2:=us) (rest:=fT an st x) (locR:=loc) (st2:=ct an st us x) hus hlen (by simp only [ct])
  (fun n hn=>by have:=husm n hn;simp only [ct];exact this)
  (fun n hn b hb off h=>by
   obtain ⟨_,oc,_,_,k,_⟩:=en hf.get hn
   exact g.out n oc b off k hb h)
  (fun n hn b hb m oc h1 h2 h3=>by
   obtain ⟨_,oc0,_,_,k,_⟩:=en hf.get hn
   obtain ⟨_,hmν,u,hu,_⟩:=hrest m oc h1
   have:=g.apart n m oc0 u b k hu hb h3
   exact hmν (by rw [<-this];exact hn))
  (fun m oc h1 h2=>by
   obtain ⟨hm,_,u,hu,hk,hlo,hor⟩:=hrest m oc h1
   refine ⟨by simp only [ct];omega,?_⟩
   have hb:=(eB hb2 h1).2
   cases oc with
   | cells T cs=>
    obtain ⟨b,vs,h1,h2,h3,h4⟩:=hor
    exact ⟨b,vs,h1,h2,h3,fA (k:=st.next) hrel hb h4⟩
   | ax t xs=>exact th.to (S:=ae O st' loc w) (S':=ae O (ct an st us x) loc' w) rfl (.inr hAsub) hor
   | tok t xs=>exact th.to (X:=X) (S:=ae O st' loc w) (S':=ae O (ct an st us x) loc' w) (l:=loc m) rfl (.inr hAsub) hor
   | arr t xs=>
    obtain ⟨b,vs,T,h1,h2,h3,h4,h5⟩:=hor
    exact ⟨b,vs,T,h1,h2,h3,h4,fun i y hy=>let ⟨us,r1,r2⟩:=h5 i y hy;⟨us,r1.frame hcell,r2⟩⟩
   | ext k t x=>exact hor
   | iter cs seen cl=>obtain ⟨b,m,c,sn,k1,k2,k3,k4,k5⟩:=hor;exact ⟨b,m,c,sn,k1,k2,k3,fA (k:=st.next) hrel hb k4,k5⟩)
  (fun m m' oc oc' b h1 h2 _ _ h3 h4=>by
   obtain ⟨_,_,u,hu,_⟩:=hrest m oc h1
   obtain ⟨_,_,u',hu',_⟩:=hrest m' oc' h2
   exact g.apart m m' u u' b hu hu' h3 h4)
  (fun m oc b off h1 _ h2=>by
   obtain ⟨_,_,u,hu,_⟩:=hrest m oc h1
   exact g.out m u b off hu h2)
  (.inr hAsub)
  (fun b hb ⟨m,oc,h1,h2⟩=>by
   rcases hob m oc h1 with ⟨i,n,o,y,oc0,k1,k2,k3,k4,k5,k6,k7⟩ | ⟨k1,k2,k3⟩
   ·refine g.eE.2 b hb ⟨n,oc0,k4,?_⟩
    have e:b4 us (ν.map loc) loc m=loc n:=k7
    simp only [ae] at h2;rw [e] at h2;exact h2
   ·obtain ⟨_,_,u,hu,_⟩:=hrest m oc k2
    have e:b4 us (ν.map loc) loc m=loc m:=k3
    refine g.eE.2 b hb ⟨m,u,hu,?_⟩
    simp only [ae] at h2;rw [e] at h2;exact h2)
 refine ⟨loc',gN,⟨hA.size,hA.defers,fun t sv hl => ?_⟩,?_⟩
 ·simp only [ct,bB] at hl
  split at hl
  ·rename_i v hv
   cases hl
   obtain ⟨k,hk,rfl⟩:=iV hv
   obtain ⟨c,hc,hs⟩:=o5 hf.refs hk
   have hcv:CR cx.eT (ae O st' loc w) c (a.tmps.getD t undef):=hA.env t _ hc
   exact qt laid (rr g hcv hf.get hs (qx hf.Kg hk hc))
  ·have hl2:look (lQ an st x) t=some sv:=hl
   have hst:∃u,look st'.env t=some u/\gT u sv:=by
    simp only [lQ,bB] at hl2
    split at hl2
    ·rename_i v hv;cases hl2;exact gw hf.env hv
    ·obtain ⟨h1,h2⟩:=db hl2;exact hkeep t h1 sv h2
   obtain ⟨u,hu,hs⟩:=hst
   have hv:=oZ hs (hA.env t u hu)
   obtain ⟨v0,rfl,hb⟩:=lH hb1 hl2
   cases v0 with
   | one c=>exact hrel hb hv
   | agg cs=>obtain ⟨vs,h1,h2⟩:=hv;exact ⟨vs,h1,fA (k:=st.next) hrel hb h2⟩
 ·refine {O:=ht.O,next:=by simp [ae,ct],os:=ht.os,output:=ht.output,size:=ht.size,own:=fun b hb => ?_,cell:=fun b o v h1 h2 => ?_,block:=ht.block,loc:=fun n hn hfx => ?_,kind:=fun n oc hn h => ?_}
  ·obtain ⟨m,oc,h1,h2⟩:=hb
   rcases hob m oc h1 with ⟨i,n,o,y,oc0,k1,k2,k3,k4,k5,k6,k7⟩ | ⟨k1,k2,k3⟩
   ·exact ht.own b ⟨n,oc0,k4,by simp only [ae] at h2;rw [k7] at h2;exact h2⟩
   ·obtain ⟨_,_,u,hu,_⟩:=hrest m oc k2
    exact ht.own b ⟨m,u,hu,by simp only [ae] at h2;rw [k3] at h2;exact h2⟩
  ·obtain ⟨k1,k2⟩:=ht.cell b o v h1 h2
   exact ⟨k1,fun h=>k2 (hAsub b o h)⟩
  ·show (loc' n).v=_/\(_->loc' n=_)
   rw [hlow n hn];exact ht.loc n hn hfx
  ·rcases hob n oc h with ⟨i,n',o,y,oc0,k1,k2,k3,k4,k5,k6,_⟩ | ⟨k1,k2,k3⟩
   ·obtain ⟨e1,o',e2,e3⟩:=hkept i n hn k2
    rw [k1] at e1;cases e1
    rw [k3] at e2;cases e2
    obtain ⟨oc1,m1,m2⟩:=ht.kind n oc0 hn k4
    refine ⟨oc1,m1,?_⟩
    show aw _ (loc' n) _ _
    rw [hlow n hn,k6]
    exact m2.comp (xl e3 k5)
   ·obtain ⟨_,_,u,hu,hk,_,_⟩:=hrest n oc k2
    obtain ⟨oc1,m1,m2⟩:=ht.kind n u hn hu
    refine ⟨oc1,m1,?_⟩
    show aw _ (loc' n) _ _
    rw [hlow n hn]
    exact m2.comp hk
end
end Go.Vg

namespace Go.Vg
open Go.RowKit
structure fF:Type 1 where
 inv:List Nat->Prop
 keep:List Nat
 cL:List Nat:=[]
 gS:List Nat:=[]
 ak:List Ob:=[]
 refs:List (Nat × Nat):=[]
 pd:List Nat->PD ak:=fun _=>Dw ak
def fF.qU (r:fF):eI:={X:=List Nat,inv:=r.inv,bV:=fun _=>0,ba:=fun _=>[],keep:=r.keep,cL:=r.cL,ak:=r.ak,refs:=r.refs,pd:=r.pd}
def Kz (r:fF) (ν0:List Nat) (st:St):List Nat:=gF r.ak r.ak ν0 st.next
def cN (r:fF) (ν0:List Nat) (st:St) (pre:List Nat):St:=ct r.qU st (Kz r ν0 st) pre
def lz (r:fF) (ν0:List Nat) (st:St) (pre:List Nat):Bool:=iU r.qU st [] pre && (iW (cN r ν0 st pre).ag && (nodupB (Kz r ν0 st) && eo (st.next + r.ak.length) (Kz r ν0 st)))
def bT {t:Ty} (xs:List (D t)) (k i:Nat):List (D t):=(xs.drop (i * k)).take k
def cr (n k:Nat):Nat:=(n + k - 1) / k
def eM (a:Option Addr) (n k i:Nat):Value:=.slice (a.map fun p=>{p with off:=p.off + i * k}) (min k (n - i * k)) (min k (n - i * k))
def rF (ps:List Tmp) (asg:Code):Option (Nat × Nat):=
 match ps,asg with
 | [p], .region _ ops false=>match ops.toList with
  | [o]=>match o.dst,o.op,o.guard with
   | some d, .assign (.tmp q),none=>match Nat.beq q p with
    | true=>some (p,d)
    | false=>none
   | _,_,_=>none
  | _=>none
 | _,_=>none
def IM (st:St) (r:fF):fF:={r with keep:=(ux st.env r.keep).filter (fun t=>lk [t] r.refs),cL:=match r.cL with
 | []=>lj (r.gS++(match qw st r.qU with | some l=>l | none=>[])) st.ag
 | l=>l}
@[reducible] def CJ:Ty:=.slice (.int .u8)
def yq (an:fF) (ν0:List Nat) (st1:St) (bs:List (D (.int .u8))) (kN p d:Nat) (pre:List Nat) (i:Nat):St:=
 {cN an ν0 st1 pre with env:=(d, .s (.one (.d CJ (bT bs kN i)))) :: (p, .s (.one (.d CJ (bT bs kN i)))) :: (cN an ν0 st1 pre).env}
def rK (an:fF) (ν0:List Nat) (st1:St) (K:Ex->St->VC) (pre:List Nat) (i:Nat):Ex->St->VC:=fun e st'=>match e with
 | .normal=>uY an.qU ν0 st1 {st' with env:=(cN an ν0 st1 pre).env} fun x=>x=pre++[i]
 | .ret=>match iW st'.ag with
  | true => .imp (pre=List.range i) (K .ret {st' with env:=(cN an ν0 st1 pre).env})
  | false => .ff
 | .exit _ => .ff
def IN (cx:Cx) (an:fF) (st1:St) (bs:List (D (.int .u8))) (k:Int) (p d:Nat) (body:Code) (K:Ex->St->VC):VC:=
 match qw st1 an.qU with
 | some ν0 => .both (.leaf (1<=k/\k<=1000000000/\bs.length<=1000000000))
  (.both (uY an.qU ν0 st1 st1 fun x=>x = []) (.both (.all (List Nat) fun pre => .imp (an.inv pre) (match lz an ν0 st1 pre with
    | true => .all Nat fun i => .imp (pre.length < cr bs.length k.toNat)
     (vc cx [] body 0 (yq an ν0 st1 bs k.toNat p d pre i) (rK an ν0 st1 K pre i))
    | false => .ff))
   (.imp (an.inv (List.range (cr bs.length k.toNat))) (K .normal (cN an ν0 st1 (List.range (cr bs.length k.toNat)))))))
 | none => .ff
def HT (cx:Cx) (it:FuncId) (r:St->fF) (g:Operand) (p d:Nat) (body:Code) (st:St) (K:Ex->St->VC):VC:=
 match bP st.env g with
 | .fn f [n1,n2]=>match Nat.beq f it && !Nat.beq n1 n2,look st.ag n1,look st.ag n2 with
  | true,some (.cells _ [.d (.slice (.int .u8)) bs]),some (.cells _ [.d (.int .i64) k])=>
   IN cx (IM (aA (aA st n1) n2) (r (aA (aA st n1) n2))) (aA (aA st n1) n2) bs k p d body K
  | _,_,_ => .ff
 | _ => .ff
def ou (P:Program) (it:FuncId):Prop:=
 ∀(b1 b2:Nat) (a:Option Addr) (len cap k:Nat) (w:World),1<=k->k<=1000000000->len<=1000000000->len<=cap->(0 < len->∃b o,a=some ⟨b,o,none⟩)->b1 < w.heap.size->b2 < w.heap.size->w.cell? ⟨b1,0,none⟩=some (.slice a len cap)->w.cell? ⟨b2,0,none⟩=some (.int .i64 k)->
  SeqStopsK Fence.wide 2 P it #[.pointer (some ⟨b1,0,none⟩), .pointer (some ⟨b2,0,none⟩)] (fun i:Nat => #[eM a len k i])
   (fun A B=>B.cell? ⟨b1,0,none⟩=A.cell? ⟨b1,0,none⟩/\B.cell? ⟨b2,0,none⟩=A.cell? ⟨b2,0,none⟩) (fun xs=>xs=List.range (cr len k)) (fun pre=>∃j,pre=List.range j) (cr len k) w
theorem lT {t:Ty} (xs:List (D t)) (k i:Nat):(bT xs k i).length=min k (xs.length - i * k):=by simp [bT]
section
variable {eT:TypeId} {X:Ext}
theorem HU {bs:List (D (.int .u8))} {A:ah} {w:World} {v:Value} (h:VR eT CJ bs A w v) :
  ∃a cap,v = .slice a bs.length cap/\bs.length<=cap/\(0 < bs.length->∃b o,a=some ⟨b,o,none⟩)/\∀k i,VR eT CJ (bT bs k i) A w (eM a bs.length k i):=by
 obtain ⟨v',e,hbig,h⟩:=h.one rfl
 cases e
 rcases h with ⟨rfl,a,c,rfl⟩ | ⟨b,o,cap,rfl,hc,h⟩
 ·refine ⟨a,c,rfl,Nat.zero_le _,fun h=>absurd h (Nat.lt_irrefl _),fun k i=>VR.aW rfl ⟨_,rfl,by simp [bT], .inl ⟨by simp [bT],a.map fun p=>{p with off:=p.off + i * k},0,by simp [eM]⟩⟩⟩
 ·refine ⟨some ⟨b,o,none⟩,cap,rfl,hc,fun _=>⟨b,o,rfl⟩,fun k i=>VR.aW rfl ⟨_,rfl,by rw [lT];omega, .inr ⟨b,o + i * k,min k (bs.length - i * k),by rw [lT];rfl,by rw [lT];exact Nat.le_refl _,fun j y hj => ?_⟩⟩⟩
  have hj':bs[i * k + j]?=some y:=by
   unfold bT at hj
   rw [List.getElem?_take] at hj
   split at hj
   ·rwa [List.getElem?_drop] at hj
   ·cases hj
  obtain ⟨us,h1,h2⟩:=h _ y hj'
  refine ⟨us,h1,fun m u hm => ?_⟩
  have:=h2 m u hm
  rw [show o + i * k + j * (Ty.int IntKind.u8).size + m=o + (i * k + j) * (Ty.int IntKind.u8).size + m by simp [Ty.size];omega]
  exact this
end
section
variable {P:Program} {F:Fence} {n:Nat}
theorem F5 {K:Act->World->Prop} {id:Nat} {ops:Array Oper} {o:Oper} {d q:Nat} (ho:ops.toList = [o]) (hd:o.dst=some d) (hop:o.op = .assign (.tmp q)) (hg:o.guard=none) {a:Act} {w:World} (hF:∀f,F.fn f)
  (h:K (a.put (some d) (a.eval (.tmp q))) w):(Code.region id ops false).wpIn F n P (Exit.then K (fun _ _ _=>False)) a w:=by
 refine wpIn_region_list ?_
 rw [ho]
 unfold wpListIn
 rw [if_pos (by simp [Region.wanted,hg])]
 refine ⟨fun f _=>hF f,?_⟩
 rw [Oper.semAt_eq _ _ _ (by simp [hop])]
 have e:(execOp a.eval o).run P w = .ok (.value (a.eval (.tmp q))) w:=by unfold execOp;rw [hop];rfl
 rw [e]
 simp only [Oper.uponIn,hd]
 exact h
end
theorem BT {ps:List Tmp} {asg:Code} {p d:Nat} (h:rF ps asg=some (p,d)):ps = [p]/\∃id ops o,asg = .region id ops false/\ops.toList = [o]/\o.dst=some d/\o.op = .assign (.tmp p)/\o.guard=none:=by
 unfold rF at h
 split at h
 ·split at h
  ·split at h
   ·split at h
    ·cases h
     rename_i hb _
     have:=Nat.eq_of_beq_eq_true hb
     subst this
     exact ⟨rfl,_,_,_,rfl,by assumption,by assumption,by assumption,by assumption⟩
    ·cases h
   ·cases h
  ·cases h
 ·cases h
def Ej (D:Nat):Deferred:={target:=.collected D,args:=#[]}
theorem rG {a:Act} (h:a.defers = []):gu [] a=a:=by cases a;simp only at h;subst h;rfl
section
variable {X:Ext} {P:Program} {cx:Cx}
structure Ek (cx:Cx) (X:Ext) (O:ah) (K:St->VC) (S:aH) (a a':Act) (w':World) (D:Nat) (st':St) (loc':Nat->Loc):Prop where
 act:a'=gu [Ej D] a
 vc:(K st').holds
 ju:Good cx.eT X (ae O st' loc' w')
 tr:Tr S (ae O st' loc' w')
 env:cJ cx.eT (ae O st' loc' w') st'.env a
 Le:S.w.heap.size<=D
 mark:w'.heap[D]?=some (.deferred (some []))
 plain:iW st'.ag=true
def QR (cx:Cx) (X:Ext) (O:ah) (K:Ex->St->VC) (S:aH) (a:Act):Exit->Act->World->Prop
 | .normal,a',w'=>∃D st' loc',Ek cx X O (K .normal) S a a' w' D st' loc'
 | .ret,a',w'=>∃D st' loc',Ek cx X O (K .ret) S a a' w' D st' loc'
 | _,_,_=>False
theorem kf {st:St}:∀{l:List Nat} {n:Nat} {v:SV},n∈l->look st.env n=some v->look (iv st l) n=some v
 | [],_,_,h,_=>by simp at h
 | t :: r,n,v,h,hv=>by
  simp only [iv]
  by_cases e:t=n
  ·subst e
   rw [hv]
   simp only [aU,if_true]
  ·have hn:n∈r:=(List.mem_cons.1 h).resolve_left fun h=>e h.symm
   cases look st.env t with
   | none=>exact kf hn hv
   | some u=>simp only [aU,if_neg e];exact kf hn hv
theorem HV {an:eI} {st:St} {us:List Nat} {x:an.X} (hs:an.ba x = []) (hnr:lk an.keep an.refs=true) {n:Nat} (hn:n∈an.keep) {v:SV} (h:look st.env n=some v):look (ct an st us x).env n=some v:=by
 simp only [ct,lQ,bB,hs]
 split
 ·rename_i u hu
  obtain ⟨k,hk,_⟩:=iV hu
  exact absurd hn (o6 hnr hk)
 ·simp only [look]
  exact kf hn h
theorem u4 {O:ah} {an:fF} {ν0:List Nat} {st1 st':St} {loc loc':Nat->Loc} {w W:World} {a:Act} {pre:List Nat} (g:Good cx.eT X (ae O st' loc' W)) (hsz:a.tmps.size=cx.N) (hdf:a.defers = []) (henv:cJ cx.eT (ae O st' loc' W) st'.env a)
  (ht:Tr (ae O st1 loc w) (ae O st' loc' W)) (hkeep:∀n∈an.keep,∀v,look st1.env n=some v->∃u,look st'.env n=some u/\gT u v) (hf:∃ν,zH an.qU st1 st' pre ν/\pw an.ak ν0 ν=true) (hB:lz an ν0 st1 pre=true) :
  ∃loc2,Good cx.eT X (ae O (cN an ν0 st1 pre) loc2 W)/\cJ cx.eT (ae O (cN an ν0 st1 pre) loc2 W) (cN an ν0 st1 pre).env a/\Tr (ae O st1 loc w) (ae O (cN an ν0 st1 pre) loc2 W):=by
 simp only [lz,Bool.and_eq_true] at hB
 obtain ⟨h1,_,h3,h4⟩:=hB
 obtain ⟨ν,hf,hk⟩:=hf
 obtain ⟨loc2,m1,m2,m3⟩:=F4 (an:=an.qU) (st:=st1) (st':=st') (O:=O) (loc:=loc') (w:=W) (loc0:=loc) (w0:=w) (a:=a) (W:=[]) (ν:=ν) pre h3 kC (fun n hn=>lJ h4 hn)
  (fun i m hi=>by
   rcases ln hi with ⟨o,o',k1,k2,k3,k4⟩ | k
   ·rw [k1] at k2;cases k2
    refine .inr ⟨?_,o,k1,k3⟩
    have hl:i < ν.length:=by rw [<-iu hf.get];exact aE k1
    rw [List.getElem?_eq_getElem hl]
    exact congrArg some (xk hk k1 k3 k4 (List.getElem?_eq_getElem hl))
   ·exact .inl k) g ⟨hsz,hdf,henv⟩ ht h1 hkeep hf
 exact ⟨loc2,m1,m2.env,m3⟩
theorem HW (hok:fw P cx X) {it:FuncId} (hit:ou P it) (heg:∀args w,(callFunc it args).run P w = .ok (.enter it args) w) {O:ah} {st:St} {loc:Nat->Loc} {w:World} {a:Act} {K:Ex->St->VC} {g:Operand} {ps:Array Tmp} {asg body:Code} {p d:Nat}
  (r:St->fF) (hsh:rF ps.toList asg=some (p,d)) (hsb:eS body=true) (hpN:p < cx.N) (lA:d < cx.N) (hA:cw cx (ae O st loc w) st a) (gd:Good cx.eT X (ae O st loc w)) (hO:bZ O w)
  (h:(HT cx it r g p d body st K).holds):(Code.rangeFunc g ps asg body).wpIn Fence.wide 3 P (QR cx X O K (ae O st loc w) a) a w:=by
 obtain ⟨hps,id,ops,o,rfl,hops,hdst,hop,hgd⟩:=BT hsh
 unfold HT at h
 split at h
 case h_2=>exact h.elim
 rename_i f n1 n2 hev
 split at h
 case h_2=>exact h.elim
 rename_i T1 bs T2 k hb h1 h2
 simp only [Bool.and_eq_true,Bool.not_eq_true'] at hb
 have hf:=Nat.eq_of_beq_eq_true hb.1
 subst hf
 have hne:n1≠n2:=fun e=>by have h3:=hb.2;subst e;rw [Nat.beq_refl] at h3;cases h3
 obtain ⟨st1,hst1⟩:∃s,s=aA (aA st n1) n2:=⟨_,rfl⟩
 rw [<-hst1] at h
 generalize IM st1 (r st1)=an at h
 unfold IN at h
 split at h
 case h_2=>exact h.elim
 rename_i ν0 _
 obtain ⟨⟨hk1,hk2,hlen⟩,hfit,hbd,hend⟩:=h
 obtain ⟨x0,hinv0,hx0,hf0⟩:=uZ hfit
 subst hx0
 obtain ⟨kN,hkN⟩:∃kN:Nat,kN=Int.toNat k:=⟨_,rfl⟩
 have hkk:(k:Int)=(kN:Int):=by rw [hkN];exact (Int.toNat_of_nonneg (Int.le_trans (by decide) hk1)).symm
 rw [<-hkN] at hbd hend
 have hHB:∀pre,an.inv pre->lz an ν0 st1 pre=true/\∀i,pre.length < cr bs.length kN->(vc cx [] body 0 (yq an ν0 st1 bs kN p d pre i) (rK an ν0 st1 K pre i)).holds:=by
  intro pre hp
  have:=hbd pre hp
  split at this
  ·rename_i e;exact ⟨e,fun i hi=>this i hi⟩
  ·exact this.elim
 have hx:=aK hA.env g
 rw [hev] at hx
 obtain ⟨hgv,hcap⟩:=hx
 obtain ⟨b1,vs1,hl1,hbs1,hheap1,hc1⟩:=(gd.obj n1 _ h1).2
 obtain ⟨b2,vs2,hl2,hbs2,hheap2,hc2⟩:=(gd.obj n2 _ h2).2
 cases hc1 with
 | cons hv1 _ hr1=>
 cases hr1
 cases hc2 with
 | cons hv2 _ hr2=>
 cases hr2
 rename_i v1 _ v2 _
 obtain ⟨a0,cap,rfl,hcap1,hsome,hpart⟩:=HU hv1
 obtain ⟨rfl,_⟩:=bd.1 hv2
 have hb1:b1 < w.heap.size:=(Array.getElem?_eq_some_iff.1 hheap1).1
 have hb2:b2 < w.heap.size:=(Array.getElem?_eq_some_iff.1 hheap2).1
 have hcell1:w.cell? ⟨b1,0,none⟩=some (.slice a0 bs.length cap):=by rw [cell_of_row w b1 _ _ _ (0,0) hheap1];rfl
 have hcell2:w.cell? ⟨b2,0,none⟩=some (.int .i64 kN):=by rw [cell_of_row w b2 _ _ _ (0,0) hheap2,<-hkk];rfl
 obtain ⟨tr1,g1⟩:=gP (cx:=cx) gd n1
 obtain ⟨tr2,g2⟩:=gP (cx:=cx) g1 n2
 rw [<-hst1] at tr2 g2
 have trS:=tr1.trans tr2
 have hlook:∀n oc,look st1.ag n=some oc->n≠n1/\n≠n2/\look st.ag n=some oc:=by
  intro n oc hn
  rw [hst1] at hn
  simp only [aA,fQ] at hn
  split at hn
  ·cases hn
  ·split at hn
   ·cases hn
   ·rename_i e1 e2;exact ⟨fun e=>e2 e.symm,fun e=>e1 e.symm,hn⟩
 have hno1:∀{loc' W pre},Tr (ae O st1 loc w) (ae O (cN an ν0 st1 pre) loc' W)->¬ (ae O (cN an ν0 st1 pre) loc' W).owns b1:=by
  intro loc' W pre t ho
  rcases t.own b1 ho with ⟨n,oc,k1,k2⟩ | k
  ·obtain ⟨e1,_,k3⟩:=hlook n oc k1
   exact e1 (gd.apart n n1 oc _ b1 k3 h1 k2 (by show b1∈((ae O st loc w).loc n1).bs;rw [hbs1];simp))
  ·exact absurd hb1 (Nat.not_lt.2 k)
 have hno2:∀{loc' W pre},Tr (ae O st1 loc w) (ae O (cN an ν0 st1 pre) loc' W)->¬ (ae O (cN an ν0 st1 pre) loc' W).owns b2:=by
  intro loc' W pre t ho
  rcases t.own b2 ho with ⟨n,oc,k1,k2⟩ | k
  ·obtain ⟨_,e1,k3⟩:=hlook n oc k1
   exact e1 (gd.apart n n2 oc _ b2 k3 h2 k2 (by show b2∈((ae O st loc w).loc n2).bs;rw [hbs2];simp))
  ·exact absurd hb2 (Nat.not_lt.2 k)
 have hgbs:∀b∈X.wy,b < w.heap.size:=fun b hb=>X.yu gd.eE.1 b hb
 have hpartW:∀{loc' W pre} (_:Tr (ae O st1 loc w) (ae O (cN an ν0 st1 pre) loc' W)) i,VR cx.eT CJ (bT bs kN i) (ae O (cN an ν0 st1 pre) loc' W).A W (eM a0 bs.length kN i):=fun t i=>
  VR.frame (hpart kN i) (trS.trans t).cell
 have hv0:gu [] a=a:=rG hA.defers
 have hplainH:∀{pre},lz an ν0 st1 pre=true->iW (cN an ν0 st1 pre).ag=true:=fun hB=>by simp only [lz,Bool.and_eq_true] at hB;exact hB.2.1
 have hO1:∀{W:World},w.heap.size<=W.heap.size->bZ O W:=fun hs=>hO.tr hs
 refine wpIn_rangeFunc_ownG (F:=Fence.wide) (n:=3) rfl (by decide) (gf:=f) (lb:=#[.pointer (some ⟨b1,0,none⟩), .pointer (some ⟨b2,0,none⟩)]) (by rw [hgv];simp only [List.map];rw [hl1,hl2]) trivial heg
  (hit b1 b2 a0 bs.length cap kN w (Int.ofNat_le.1 (by rw [<-hkk];exact hk1)) (Int.ofNat_le.1 (by rw [<-hkk];exact hk2)) hlen hcap1 hsome hb1 hb2 hcell1 hcell2)
  (fun h k=>⟨k.1.trans h.1,k.2.trans h.2⟩)
  (fun W l o o' hl ho hc _=>⟨World.cell?_of_block (World.putObj_heap_other (by simp only;omega)),World.cell?_of_block (World.putObj_heap_other (by simp only;omega))⟩)
  (Go.RowKit.Below.refl _ _) (fun x=>by rw [<-Array.length_toList (xs:=ps),hps];rfl)
  (fun pre W=>∃loc',an.inv pre/\lz an ν0 st1 pre=true/\Good cx.eT X (ae O (cN an ν0 st1 pre) loc' W)/\cJ cx.eT (ae O (cN an ν0 st1 pre) loc' W) (cN an ν0 st1 pre).env a/\Tr (ae O st1 loc w) (ae O (cN an ν0 st1 pre) loc' W))
  (fun c pre W=>c = .ret/\∃st' loc',((∃j,pre=List.range j)->(K .ret st').holds)/\iW st'.ag=true/\Good cx.eT X (ae O st' loc' W)/\cJ cx.eT (ae O st' loc' W) st'.env a/\Tr (ae O st1 loc w) (ae O st' loc' W))
  ?_ ?_ ?_ (fun x=>(a.put (some p) (eM a0 bs.length kN x)).put (some d) (eM a0 bs.length kN x)) ?_ ?_ ?_ ?_
 ·rintro pre A B row ⟨loc',hi,hB,g',he',t'⟩ hg hr
  have bk:=mC.of hg hr
  exact ⟨loc',hi,hB,qT g' bk (fun n oc hn=>gC (hplainH hB) hn) hgbs,tz he' bk,vX t' bk (Nat.le_refl _)⟩
 ·rintro c pre A B row ⟨rfl,st',loc',hk,hpl,g',he',t'⟩ hg hr
  have bk:=mC.of hg hr
  exact ⟨rfl,st',loc',hk,hpl,qT g' bk (fun n oc hn=>gC hpl hn) hgbs,tz he' bk,vX t' bk (Nat.le_refl _)⟩
 ·have hB:=(hHB [] hinv0).1
  obtain ⟨loc2,m1,m2,m3⟩:=u4 (an:=an) (pre:=[]) g2 hA.size hA.defers (fun n v hv=>by
   rw [hst1] at hv
   exact (hA.env n v hv).tr trS) (Tr.refl _) (fun n _ v hv=>⟨v,hv,ep v⟩) hf0 hB
  exact ⟨loc2,hinv0,hB,m1,m2,m3⟩
 ·intro l x W K' hK'
  refine F5 hops hdst hop hgd (fun _=>trivial) ?_
  have e:({tmps:=(ps.zip #[eM a0 bs.length kN x]).foldl (fun t (p,v)=>t.setIfInBounds p v) a.tmps,defers:=[]}:Act)=a.put (some p) (eM a0 bs.length kN x):=by
   have:ps = #[p]:=by rw [<-Array.toArray_toList (xs:=ps),hps]
   rw [this]
   refine Eq.trans ?_ (congrArg (fun z:Act=>z.put (some p) (eM a0 bs.length kN x)) hv0)
   rw [show (#[p]:Array Tmp).zip #[eM a0 bs.length kN x] = #[(p,eM a0 bs.length kN x)] by simp [Array.zip]]
   rfl
  rw [e]
  have e2:(a.put (some p) (eM a0 bs.length kN x)).eval (.tmp p)=eM a0 bs.length kN x:=by
   have hp':p < a.tmps.size:=by rw [hA.size];exact hpN
   simp [Act.put,Act.eval,Array.getD_eq_getD_getElem?,hp']
  rw [e2]
  exact hK'
 ·rintro l pre x W ⟨loc',hi,hB,g',he',t'⟩ hlt
  have hvc:=(hHB pre hi).2 x hlt
  have hpv:=hpartW t' x
  have hA1:cw cx (ae O (cN an ν0 st1 pre) loc' W) {cN an ν0 st1 pre with env:=(p, .s (.one (.d CJ (bT bs kN x)))) :: (cN an ν0 st1 pre).env} (a.put (some p) (eM a0 bs.length kN x)):=
   cw.put (st:=cN an ν0 st1 pre) ⟨hA.size,hA.defers,he'⟩ (Tr.refl _) rfl hpN hpv
  have hA2:cw cx (ae O (cN an ν0 st1 pre) loc' W) (yq an ν0 st1 bs kN p d pre x) ((a.put (some p) (eM a0 bs.length kN x)).put (some d) (eM a0 bs.length kN x)):=
   cw.put hA1 (Tr.refl _) rfl lA hpv
  have hrun:=qS (n:=3 - 1 - 1) (st:=yq an ν0 st1 bs kN p d pre x) hok (F:=Fence.wide.inRound l) (.inr ⟨l,rfl⟩) [] body 0 hsb hA2 g' (hO1 t'.size) hvc
  rw [rG hA2.defers] at hrun
  refine wpIn_mono hrun ?_
  rintro e a2 W2 ⟨a',rfl,_,hq⟩
  have keeps:∀{st2 loc2},Tr (ae O (cN an ν0 st1 pre) loc' W) (ae O st2 loc2 W2)->KeepsFrom w.heap.size W W2:=fun k3=>
   ⟨k3.size,fun k o hk hko ho=>(k3.block k (Array.getElem?_eq_some_iff.1 hko).1 (xj g' (fun n oc hn=>gC (hplainH hB) hn) hko ho)).trans hko⟩
  cases e with
  | normal=>
   obtain ⟨st2,loc2,k1,k2,k3,k4,k5⟩:=hq
   obtain ⟨x1,i2,hx1,hf1⟩:=uZ k1
   subst hx1
   have hB2:=(hHB _ i2).1
   have hnr:lk an.qU.keep an.qU.refs=true:=by simp only [lz,iU,Bool.and_eq_true] at hB;exact hB.1.2.2.2
   obtain ⟨loc2,m1,m2,m3⟩:=u4 (an:=an) (st':={st2 with env:=(cN an ν0 st1 pre).env}) (pre:=pre++[x]) k2 hA.size hA.defers (he'.tr k3) (t'.trans k3) (fun n hn v hv=>⟨v,HV (an:=an.qU) rfl hnr hn hv,ep v⟩) hf1 hB2
   exact ⟨keeps k3,⟨World.cell?_of_block (k3.block b1 (Nat.lt_of_lt_of_le hb1 t'.size) (hno1 t')),World.cell?_of_block (k3.block b2 (Nat.lt_of_lt_of_le hb2 t'.size) (hno2 t'))⟩,loc2,i2,hB2,m1,m2,m3⟩
  | ret=>
   obtain ⟨st2,loc2,k1,k2,k3,k4,k5⟩:=hq
   simp only [rK] at k1
   split at k1
   ·rename_i hpl
    exact ⟨keeps k3,rfl,_,loc2,fun ⟨j,hj⟩=>k1 (by
     cases j with
     | zero=>simp at hj
     | succ j=>
      rw [List.range_succ] at hj
      obtain ⟨e1,e2⟩:=List.append_inj' hj rfl
      simp at e2
      rw [e2];exact e1),hpl,k2,he'.tr k3,t'.trans k3⟩
   ·exact k1.elim
  | exit i=>obtain ⟨_,_,k1,_⟩:=hq;exact k1.elim
  | goto l=>exact hq.elim
  | panic c=>exact hq.elim
  | outgrown=>exact hq.elim
 ·rintro D xs W hD rfl ⟨loc',hi,hB,g',he',t'⟩ hm
  refine ⟨D,_,loc',⟨?_,hend hi,g',trS.trans t',he',hD,hm,hplainH hB⟩⟩
  rw [hA.defers];rfl
 ·rintro D c pre W hD hsp ⟨rfl,st',loc',hk,hpl,g',he',t'⟩ hm
  refine wpIn_ret ⟨D,st',loc',⟨?_,hk hsp,g',trS.trans t',he',hD,hm,hpl⟩⟩
  rw [hA.defers];rfl
end
end Go.Vg

namespace Go.Vg
open Go.RowKit
def CK (cx:Cx) (it:FuncId) (ra:List (Nat × (St->fF))):Code->St->(Ex->St->VC)->VC
 | .seq a b,st,K=>match eS b with
  | true=>CK cx it ra a st fun e st'=>match e with
   | .normal=>vc cx [] b 0 st' K
   | e=>K e st'
  | false=>match eS a with
   | true=>vc cx [] a 0 st fun e st'=>match e with
    | .normal=>CK cx it ra b st' K
    | e=>K e st'
   | false => .ff
 | .block id (.rangeFunc g ps asg body),st,K=>match rF ps.toList asg,look ra id with
  | some (p,d),some r=>match Nat.blt p cx.N && (Nat.blt d cx.N && eS body) with
   | true=>HT cx it r g p d body st K
   | false => .ff
  | _,_ => .ff
 | _,_,_ => .ff
def IP (cx:Cx) (it:FuncId) (ra:List (Nat × (St->fF))) (res:List ResultVar) (c:Code) (st:St) (K:List aZ->St->VC):VC:=
 CK cx it ra c st fun e st'=>match e with
  | .exit _ => .ff
  | _=>match iW st'.ag with
   | true=>kU cx st' res fun vs=>K vs st'
   | false => .ff
def K9:Exit->Option Ex
 | .normal=>some .normal
 | .exit n=>some (.exit n)
 | .ret=>some .ret
 | _=>none
def ov (B:Nat) (S:aH) (ds:List Deferred):Prop:=ds = []\/∃D,ds = [Ej D]/\B<=D/\S.w.heap[D]?=some (.deferred (some []))/\¬ S.owns D
section
variable {X:Ext} {P:Program} {cx:Cx}
theorem ov.tr {B:Nat} {S S':aH} {ds:List Deferred} (h:ov B S ds) (t:Tr S S'):ov B S' ds:=by
 rcases h with h | ⟨D,h1,h2,h3,h4⟩
 ·exact .inl h
 ·have hlt:D < S.w.heap.size:=(Array.getElem?_eq_some_iff.1 h3).1
  exact .inr ⟨D,h1,h2,(t.block D hlt h4).trans h3,fun ho=>(t.own D ho).elim h4 fun h=>absurd hlt (Nat.not_lt.2 h)⟩
structure HX (cx:Cx) (X:Ext) (O:ah) (K:St->VC) (S:aH) (a':Act) (w':World) (ds:List Deferred) (a2:Act) (st':St) (loc':Nat->Loc):Prop where
 act:a'=gu ds a2
 rel:cw cx (ae O st' loc' w') st' a2
 vc:(K st').holds
 ju:Good cx.eT X (ae O st' loc' w')
 tr:Tr S (ae O st' loc' w')
 marks:ov S.w.heap.size (ae O st' loc' w') ds
def QE (cx:Cx) (X:Ext) (O:ah) (K:Ex->St->VC) (S:aH):Exit->Act->World->Prop:=fun e a' w'=>∃x,K9 e=some x/\∃ds a2 st' loc',HX cx X O (K x) S a' w' ds a2 st' loc'
theorem El {O:ah} {K:Ex->St->VC} {W:List Nat} {st1:St} {S0 S1:aH} {ds:List Deferred} (t:Tr S0 S1) (hm:ov S0.w.heap.size S1 ds) {e:Exit} {a:Act} {w:World} (h:sC ds (dO cx X O K W st1 S1) e a w):QE cx X O K S0 e a w:=by
 obtain ⟨a',rfl,hb,hq⟩:=h
 cases e with
 | normal=>obtain ⟨st',loc',k1,k2,k3,k4,_⟩:=hq;exact ⟨_,rfl,ds,a',st',loc',rfl,k4,k1,k2,t.trans k3,hm.tr k3⟩
 | exit i=>obtain ⟨st',loc',k1,k2,k3,k4,_⟩:=hq;exact ⟨_,rfl,ds,a',st',loc',rfl,k4,k1,k2,t.trans k3,hm.tr k3⟩
 | ret=>obtain ⟨st',loc',k1,k2,k3,k4,_⟩:=hq;exact ⟨_,rfl,ds,a',st',loc',rfl,k4,k1,k2,t.trans k3,hm.tr k3⟩
 | goto l=>exact hq.elim
 | panic c=>exact hq.elim
 | outgrown=>exact hq.elim
theorem QE.mono {O:ah} {K:Ex->St->VC} {S0 S1:aH} (t:Tr S0 S1) {e:Exit} {a:Act} {w:World} (h:QE cx X O K S1 e a w):QE cx X O K S0 e a w:=by
 obtain ⟨x,hx,ds,a2,st',loc',q⟩:=h
 refine ⟨x,hx,ds,a2,st',loc',q.act,q.rel,q.vc,q.ju,t.trans q.tr,?_⟩
 rcases q.marks with h | ⟨D,h1,h2,h3⟩
 ·exact .inl h
 ·exact .inr ⟨D,h1,Nat.le_trans t.size h2,h3⟩
theorem F6 (hok:fw P cx X) {it:FuncId} (hit:ou P it) (heg:∀args w,(callFunc it args).run P w = .ok (.enter it args) w) {O:ah} (ra:List (Nat × (St->fF))):∀(c:Code) {st:St} {loc:Nat->Loc} {w:World} {a:Act} {K:Ex->St->VC},
  cw cx (ae O st loc w) st a->Good cx.eT X (ae O st loc w)->bZ O w->(CK cx it ra c st K).holds->c.wpIn Fence.wide 3 P (QE cx X O K (ae O st loc w)) a w:=by
 intro c
 induction c with
 | seq c1 c2 ih1 ih2=>
  intro st loc w a K hA g hO h
  simp only [CK] at h
  split at h
  ·rename_i hs2
   refine wpIn_seq (wpIn_mono (ih1 hA g hO h) ?_)
   rintro e a1 w1 ⟨x,hx,ds,a2,st',loc',q⟩
   cases e with
   | normal=>
    cases hx
    obtain ⟨rfl,q2,q3,q4,q5,q6⟩:=q
    exact wpIn_mono (qS (n:=3) hok (F:=Fence.wide) (.inl rfl) ds c2 0 hs2 q2 q4 (hO.tr q5.size) q3) fun e a w hq=>El q5 q6 hq
   | exit i=>cases hx;exact ⟨_,rfl,ds,a2,st',loc',q⟩
   | ret=>cases hx;exact ⟨_,rfl,ds,a2,st',loc',q⟩
   | goto l=>cases hx
   | panic c=>cases hx
   | outgrown=>cases hx
  ·split at h
   ·rename_i hs1
    have hr:=qS (n:=3) hok (F:=Fence.wide) (.inl rfl) [] c1 0 hs1 hA g hO h
    rw [rG hA.defers] at hr
    refine wpIn_seq (wpIn_mono hr ?_)
    rintro e a1 w1 hq
    cases e with
    | normal=>
     obtain ⟨a',rfl,hb,st',loc',k1,k2,k3,k4,_⟩:=hq
     show c2.wpIn _ _ _ _ (gu [] a') w1
     rw [rG hb]
     exact wpIn_mono (ih2 k4 k2 (hO.tr k3.size) k1) fun e a w hq=>hq.mono k3
    | exit i=>exact El (K:=K) (Tr.refl _) (.inl rfl) hq
    | ret=>exact El (K:=K) (Tr.refl _) (.inl rfl) hq
    | goto l=>exact hq.choose_spec.2.2.elim
    | panic c=>exact hq.choose_spec.2.2.elim
    | outgrown=>exact hq.choose_spec.2.2.elim
   ·exact h.elim
 | block id b ih=>
  intro st loc w a K hA g hO h
  cases b with
  | rangeFunc gf ps asg body=>
   simp only [CK] at h
   split at h
   ·rename_i p d r hsh _
    split at h
    ·rename_i hb
     simp only [Bool.and_eq_true] at hb
     refine wpIn_block (wpIn_mono (HW hok hit heg r hsh hb.2.2 (gk hb.1) (gk hb.2.1) hA g hO h) ?_)
     have fin:∀{x:Ex} {a':Act} {w':World},(∃D st' loc',Ek cx X O (K x) (ae O st loc w) a a' w' D st' loc')->∃ds a2 st' loc',HX cx X O (K x) (ae O st loc w) a' w' ds a2 st' loc':=by
      rintro x a' w' ⟨D,st',loc',q⟩
      exact ⟨[Ej D],a,st',loc',q.act,⟨hA.size,hA.defers,q.env⟩,q.vc,q.ju,q.tr, .inr ⟨D,rfl,q.Le,q.mark,xj q.ju (fun n oc hn=>gC q.plain hn) q.mark rfl⟩⟩
     intro e a' w' hq
     cases e with
     | normal=>exact ⟨_,rfl,fin hq⟩
     | ret=>exact ⟨_,rfl,fin hq⟩
     | exit i=>exact hq.elim
     | goto l=>exact hq.elim
     | panic c=>exact hq.elim
     | outgrown=>exact hq.elim
    ·exact h.elim
   ·exact h.elim
  | _=>exact h.elim
 | _=>intro st loc w a K hA g hO h;exact h.elim
theorem F7 (hok:TyOK P cx) {O:ah} {st:St} {loc:Nat->Loc} {w:World} {a:Act} (g:Good cx.eT X (ae O st loc w)) (he:cJ cx.eT (ae O st loc w) st.env a) {fn:Func} {K:List aZ->VC} (h:(kU cx st fn.results.toList K).holds) :
  ∃vs us,(K vs).holds/\bc cx.eT (ae O st loc w) vs us/\(results fn a.tmps).run P w = .ok (o8 us) w:=by
 obtain ⟨vs,us,m1,m2,m3⟩:=sd (P:=P) hok g he h
 refine ⟨vs,us,m1,m2,?_⟩
 have hm:(fn.results.mapM (mu a.tmps):Sem (Array Value)).run P w = .ok us.toArray w:=by
  rw [<-Array.toArray_toList (xs:=fn.results),List.mapM_toArray,Sem.run_map,m3]
  rfl
 have he:results fn a.tmps=(do
   let xs <-fn.results.mapM (mu a.tmps)
   return if h:xs.size=1 then xs[0] else .tuple xs):=by
  unfold results
  congr 1
 rw [he,Sem.run_bind,hm]
 simp only [Result.andThen_ok,Sem.run_pure]
 match us with
 | []=>rfl
 | [u]=>rfl
 | _ :: _ :: _=>rfl
theorem Ao (hok:fw P cx X) {it:FuncId} (hit:ou P it) (heg:∀args w,(callFunc it args).run P w = .ok (.enter it args) w) {f:FuncId} {fn:Func} {c:Code} (hf:P.funcs[f]?=some fn) (hb:fn.body=some c) (hN:cx.N=fn.ntmps) (ra:List (Nat × (St->fF))) {O:ah} {st:St} {loc:Nat->Loc} {w:World}
  {args:Array Value} {K:List aZ->St->VC} (hsz:args.size<=fn.ntmps) (g:Good cx.eT X (ae O st loc w)) (hO:bZ O w)
  (henv:∀t sv,look st.env t=some sv->∃v,args[t]?=some v/\bH cx.eT (ae O st loc w) sv v)
  (h:(IP cx it ra fn.results.toList c st K).holds) :
  Calls P f args w fun e w'=>∃vs us st' loc',e = .returned (o8 us)/\(K vs st').holds/\bc cx.eT (ae O st' loc' w') vs us/\Good cx.eT X (ae O st' loc' w')/\Tr (ae O st loc w) (ae O st' loc' w'):=by
 refine callsIn_wide.1 (callsIn_of_wp_marks (n:=3) hf hb trivial ?_)
 have hA:cw cx (ae O st loc w) st {tmps:=args++Array.replicate (fn.ntmps - args.size) undef,defers:=[]}:=by
  refine ⟨by simp [hN];omega,rfl,fun t sv ht => ?_⟩
  obtain ⟨v,hv,hr⟩:=henv t sv ht
  have hlt:t < args.size:=by
   rcases Nat.lt_or_ge t args.size with hh | hh
   ·exact hh
   ·rw [Array.getElem?_eq_none hh] at hv;cases hv
  rw [Array.getD_eq_getD_getElem?,Array.getElem?_append,if_pos hlt,hv]
  exact hr
 refine wpIn_mono (F6 hok hit heg ra c hA g hO h) ?_
 have fin:∀{a':Act} {w':World} {ds:List Deferred} {a2:Act} {st':St} {loc':Nat->Loc},HX cx X O (fun st'=>match iW st'.ag with
   | true=>kU cx st' fn.results.toList fun vs=>K vs st'
   | false => .ff) (ae O st loc w) a' w' ds a2 st' loc'->
   LeavesInM Fence.wide 3 P fn a'.tmps (fun e w'=>∃vs us st' loc',e = .returned (o8 us)/\(K vs st').holds/\bc cx.eT (ae O st' loc' w') vs us/\Good cx.eT X (ae O st' loc' w')/\Tr (ae O st loc w) (ae O st' loc' w')) a'.defers .returning w':=by
  rintro a' w' ds a2 st' loc' ⟨rfl,q2,q3,q4,q5,q6⟩
  split at q3
  case h_2=>exact q3.elim
  rename_i hpl
  rcases q6 with rfl | ⟨D,rfl,k1,k2,k3⟩
  ·obtain ⟨vs,us,m1,m2,m3⟩:=F7 hok.toTyOK q4 q2.env q3
   exact ⟨_,m3,vs,us,st',loc',rfl,m1,m2,q4,q5⟩
  ·have bk:mC w.heap.size w' (w'.putObj D (.deferred none)):=mC.of (grownBy_putObj' w' D _) (fun r e=>by cases e;exact ⟨k1,_,k2,rfl⟩)
   have g':Good cx.eT X (ae O st' loc' (w'.putObj D (.deferred none))):=qT q4 bk (fun n oc hn=>gC hpl hn) (fun b hb=>X.yu g.eE.1 b hb)
   have t':Tr (ae O st loc w) (ae O st' loc' (w'.putObj D (.deferred none))):=vX q5 bk (Nat.le_refl _)
   have e':cJ cx.eT (ae O st' loc' (w'.putObj D (.deferred none))) st'.env a2:=tz q2.env bk
   obtain ⟨vs,us,m1,m2,m3⟩:=F7 hok.toTyOK g' e' q3
   refine ⟨by simp, .inl ⟨D,_,rfl,run_takeDeferred k2,?_⟩⟩
   exact ⟨_,m3,vs,us,st',loc',rfl,m1,m2,g',t'⟩
 rintro e a' w' ⟨x,hx,ds,a2,st',loc',q⟩
 cases e with
 | normal=>cases hx;exact fin q
 | ret=>cases hx;exact fin q
 | exit i=>cases hx;exact q.vc.elim
 | goto l=>cases hx
 | panic c=>cases hx
 | outgrown=>cases hx
variable {ak:List Ob} {args:List Cl}
def vY (B:Cx) (Γ:List (FuncId × (Bool × aY))) (it:FuncId) (fn:Func) (ra:List (Nat × (St->fF))) (ak:List Ob) (args:List Cl) (alts:List (Alt ak args)) (a:CD args) (x:PD ak):VC:=
 IP (lI B Γ fn.ntmps) it ra fn.results.toList (codeOf fn) (eQ ak args a x) fun vs st'=>mY a x vs st' alts
theorem vZ {B:Cx} {Γ:List (FuncId × (Bool × aY))} (hok:bn P B X Γ) {it:FuncId} (hit:ou P it) {fi:Func} (hfi:P.funcs[it]?=some fi) (hgi:jU fi 3=true) {f:FuncId} {fn:Func} (hf:P.funcs[f]?=some fn) (hg:jU fn args.length=true) (ra:CD args->PD ak->List (Nat × (St->fF)))
  {pre:CD args->PD ak->Prop} {alts:List (Alt ak args)} (h:∀a x,eN args a->pre a x->(vY B Γ it fn (ra a x) ak args alts a x).holds) :
  bw P B.eT X f false (aB ak args pre alts):=by
 simp only [jU,Bool.and_eq_true,Bool.not_eq_true'] at hg hgi
 obtain ⟨⟨h1,h2⟩,h3⟩:=hg
 obtain ⟨c,hc⟩:=Option.isSome_iff_exists.1 h1
 have heg:∀args w,(callFunc it args).run P w = .ok (.enter it args) w:=fun args w=>qi hfi (by obtain ⟨ci,hci⟩:=Option.isSome_iff_exists.1 hgi.1.1;rw [hci];rfl) hgi.1.2 args w
 refine ⟨⟨fn,hf,by rw [hc];rfl,h2⟩,fun O st loc w asg vs K hK g hO ha => ?_⟩
 unfold aB at hK
 obtain ⟨t1,g1,e1,k1⟩:=pc args asg g
 simp only at hK
 split at hK
 case h_2=>exact hK.elim
 rename_i ν hν
 split at hK
 case h_2=>exact hK.elim
 rename_i a x hnd hga hx
 obtain ⟨hp,hpre,hK⟩:=tg hK
 obtain ⟨hp1,hp2⟩:=dH.1 hp
 refine (wY (f:=f) (B:=B) (pre:=pre) g1 hO (k1 vs ha) hnd hga hx hp1 hp2 hpre hK fun hwf O' loc0 g0 hOin' hargs hlen => ?_).mono ?_
 ·have hcode:codeOf fn=c:=by unfold codeOf;rw [hc];rfl
  have hvc:=h a x hwf hpre
  unfold vY at hvc
  rw [hcode] at hvc
  exact Ao (X:=X) (hok fn.ntmps) hit heg hf hc (by rfl) (ra a x) (O:=O') (loc:=loc0) (w:=w) (args:=vs.toArray) (st:=eQ ak args a x)
   (by rw [List.size_toArray,hlen];exact Nat.le_of_ble_eq_true h3) g0 hOin'
   (fun t sv ht=>by
    obtain ⟨_,v,k1,k2⟩:=nF 0 hargs t sv ht
    exact ⟨v,by simpa using k1,k2⟩) hvc
 ·rintro e w' ⟨v,sv,st',loc',q1,q2,q3,q4,q5,q6⟩
  exact ⟨v,sv,st',loc',q1,q2,q3.trans e1,(fun hq=>by cases hq),q4,t1.trans q5,q6⟩
end
end Go.Vg

namespace Go.Mrl
open Go.Vg
def bQ (l:List (D af)) (s:aj):Int:=match l.findIdx? (fun e=>decide (e.1=s)) with
 | some i=>(i:Int)
 | none => -1
theorem kg {l:List (D af)} {s:aj} (h:∀j,j < l.length->(nth af l j).1≠s):bQ l s = -1:=by
 unfold bQ
 rw [List.findIdx?_eq_none_iff.2 fun e he=>by
  obtain ⟨j,hj,rfl⟩:=gA (t:=af) he
  exact decide_eq_false (h j hj)]
theorem px {l:List (D af)} {s:aj} {i:Nat} (hi:i < l.length) (h:∀j,j < i->(nth af l j).1≠s) (he:(nth af l i).1=s):bQ l s=(i:Int):=by
 unfold bQ
 have hn:∀j (hj:j < l.length),l[j]=nth af l j:=fun j hj=>by unfold nth;rw [List.getD_eq_getElem?_getD,List.getElem?_eq_getElem hj];rfl
 rw [(List.findIdx?_eq_some_iff_getElem (xs:=l) (p:=fun e=>decide (e.1=s)) (i:=i)).2 ⟨hi,by rw [hn i hi];exact decide_eq_true he,fun j hj=>by
  rw [hn j (by omega)];simp only [decide_eq_true_eq];exact h j hj⟩]
def py (n:Int):Int:=IntKind.wrap .u8 n
def ei (n:Int):aj:=bytesOf [py n,py (n.fdiv (2 ^ 8)),py (n.fdiv (2 ^ 16)),py (n.fdiv (2 ^ 24))]
def cf (a b:Int):aj:=[83]++ei a++ei b
theorem ng (n:Int):(ei n).length=4:=by simp [ei,bytesOf]
theorem xm (a b:Int):(cf a b).length=9:=by simp [cf,ng]
def F8 (a b:Int):Int:=IntKind.wrap .i64 (BitVec.ofInt IntKind.i64.bits a ||| BitVec.ofInt IntKind.i64.bits b).toNat
def F9 (a:Int) (n:Nat):Int:=IntKind.wrap .i64 (a * 2 ^ n)
def dB (s:aj):Int:=F8 (F8 (F8 ((br s 0).toNat:Int) (F9 ((br s 1).toNat:Int) 8)) (F9 ((br s 2).toNat:Int) 16)) (F9 ((br s 3).toNat:Int) 24)
def fG:List (D af)->Int
 | []=>0
 | e :: r=>if ay e≠0 then ay e else fG r
def cq (l:List (D af)):aj:=l.flatMap cy
def bF (l:List (D af)):aj × aF:=if fG l≠0 then ([],au (fG l)) else (cq l, .nil)
theorem CL:∀{l:List (D af)} {i:Nat},(∀j,j < i->ay (nth af l j)=0)->i < l.length->ay (nth af l i)≠0->fG l=ay (nth af l i)
 | [],i,_,h,_=>by simp at h
 | e :: r,0,_,_,h=>by unfold fG;rw [if_pos (show ay e≠0 from h)];rfl
 | e :: r,i + 1,h,h1,h2=>by
  unfold fG
  rw [if_neg (by have:=h 0 (by omega);exact not_not_intro this)]
  exact CL (l:=r) (i:=i) (fun j hj=>h (j + 1) (by omega)) (by simpa using h1) h2
theorem xn:∀{l:List (D af)},(∀j,j < l.length->ay (nth af l j)=0)->fG l=0
 | [],_=>rfl
 | e :: r,h=>by
  unfold fG
  rw [if_neg (by have:=h 0 (by simp);exact not_not_intro this)]
  exact xn (l:=r) fun j hj=>h (j + 1) (by simp;omega)
theorem Ap:∀{l:List (D af)},fG l=0->∀e∈l,ay e=0
 | [],_,_,h=>by simp at h
 | e :: r,hb,x,hx=>by
  unfold fG at hb
  split at hb
  ·rename_i h;exact absurd hb h
  ·rename_i h
   rcases List.mem_cons.1 hx with rfl | hx
   ·exact Classical.not_not.1 h
   ·exact Ap hb x hx
theorem Ga {l:List (D af)} {i:Nat} (h:i < l.length):cq (l.take (i + 1))=cq (l.take i)++cy (nth af l i):=by
 unfold cq;rw [fW (t:=af) h];simp
theorem Gb {e:D af} (h:ay e=0):(cy e).length<=2753:=by
 have:=(gq h).D8 e.2.2.1.length
 unfold cy lS;rw [List.length_append];simp;omega
theorem tA:∀{l:List (D af)},(∀e∈l,ay e=0)->(cq l).length<=2753 * l.length
 | [],_=>by simp [cq]
 | e :: r,h=>by
  have h1:=Gb (h e (by simp))
  have h2:=tA (l:=r) fun x hx=>h x (by simp [hx])
  have h3:cq (e :: r)=cy e++cq r:=rfl
  rw [h3,List.length_append,List.length_cons];omega
theorem Gc {l:List (D af)} {i:Nat} (hq:∀j,j < i->ay (nth af l j)=0) (hi:i < l.length) (h:(bq (nth af l i)).2.isNil=false):([],(bq (nth af l i)).2)=bF l:=by
 have hf:ay (nth af l i)≠0:=fun e=>by rw [Ak,e] at h;cases h
 unfold bF
 rw [CL hq hi hf,if_pos hf,Ak]
theorem HY {l:List (D af)} {i:Nat} (hq:∀j,j < i->ay (nth af l j)=0) (hi:¬ i < l.length):(cq (l.take i),aF.nil)=bF l:=by
 unfold bF
 rw [xn fun j hj=>hq j (by omega),if_neg (by decide),List.take_of_length_le (by omega)]
theorem Gd {l:List (D af)} {i:Nat} (h:i < l.length) (ht:(bq (nth af l i)).2.isNil=true):cq (l.take (i + 1))=cq (l.take i)++(bq (nth af l i)).1:=by
 rw [Ga h,(pq ht).2]
theorem Ge {l:List (D af)} {i:Nat} (hl:l.length<=100) (hi:i < l.length) (hq:∀j,j < i->ay (nth af l j)=0):(cq (l.take i)).length<=275300:=by
 have h1:∀e∈l.take i,ay e=0:=fun e he=>by
  obtain ⟨j,hj,rfl⟩:=gA (t:=af) he
  rw [List.length_take] at hj
  rw [HD (t:=af) (by omega)]
  exact hq j (by omega)
 have h2:=tA h1
 rw [List.length_take] at h2;omega
def gv (bs:List Int):Dk->Int->List Nat->Dk × Int
 | d,_,[]=>(d,0)
 | d,s,i :: r=>if (aJ d s (bytesOf (bT (t:=.int .u8) bs 64 i))).2=0 then gv bs (aJ d s (bytesOf (bT (t:=.int .u8) bs 64 i))).1 (s + 1) r else aJ d s (bytesOf (bT (t:=.int .u8) bs 64 i))
theorem Aq (bs:List Int) (i:Nat):∀(pre:List Nat) (d:Dk) (s:Int),(gv bs d s pre).2=0->
  gv bs d s (pre++[i])=aJ (gv bs d s pre).1 (s + pre.length) (bytesOf (bT (t:=.int .u8) bs 64 i))
 | [],d,s,_=>by
  simp only [List.nil_append,gv,List.length_nil]
  rw [show s + ((0:Nat):Int)=s by omega]
  split
  ·rename_i h
   exact Prod.ext rfl h.symm
  ·rfl
 | j :: r,d,s,h=>by
  simp only [List.cons_append,gv] at h ⊢
  split
  ·rename_i h1
   rw [if_pos h1] at h
   rw [Aq bs i r _ _ h,List.length_cons]
   congr 1;omega
  ·rename_i h1
   rw [if_neg h1] at h
   exact absurd h h1
structure bf (d:Dk) (m:Nat):Prop where
 gg : -1<=(d.1.1:Int)
 iX:d.2.2.2.1.length<=m
 len:d.2.1.length=d.2.2.1.length
theorem bf.mono {d:Dk} {m m':Nat} (h:bf d m) (hm:m<=m'):bf d m':=⟨h.gg,Nat.le_trans h.iX hm,h.len⟩
theorem nh {d:Dk} {m:Nat} (h:bf d m):bf (stepOf d).1 m:=by
 unfold stepOf
 split
 ·exact h
 ·split
  ·exact ⟨Int.le_refl _,h.iX,h.len⟩
  ·refine ⟨?_,h.iX,h.len⟩
   have:=h.gg
   show -1<=(if 0 < d.1.1 then d.1.1 - 1 else d.1.1)
   split <;> omega
theorem gh {d:Dk} {m:Nat} (h:bf d m) (a:Int) (s:aj):bf (aJ d a s).1 (m + 1):=by
 unfold aJ
 split
 ·exact h.mono (by omega)
 ·split
  ·refine ⟨(nh h).gg,?_,?_⟩
   ·show (d.2.2.2.1++[(a,bE s,())]).length<=m + 1
    rw [List.length_append];have:=h.iX;simp;omega
   ·show d.2.1.length=(d.2.2.1.set a.toNat (bE s)).length
    rw [List.length_set];exact h.len
  ·exact (nh h).mono (by omega)
theorem lU {d:Dk} {m:Nat} (h:bf d m):bf (aN d).1 m:=by
 unfold aN
 split
 ·exact ⟨(nh h).gg,Nat.zero_le _,rfl⟩
 ·exact nh h
theorem Ar (bs:List Int):∀(pre:List Nat) {d:Dk} {s:Int} {m:Nat},bf d m->bf (gv bs d s pre).1 (m + pre.length)
 | [],_,_,_,h=>h
 | i :: r,d,s,m,h=>by
  simp only [gv]
  split
  ·exact (Ar bs r (gh h _ _)).mono (by simp;omega)
  ·exact (gh h _ _).mono (by simp)
def dj (l:List (D af)) (r:Int) (d:Dk) (pre:List Nat):Dk × Int:=gv (aI (bF l).1) d (2 + (r + 1).tmod 2 * 55) pre
def dk (l:List (D af)):List Nat:=List.range (cr (aI (bF l).1).length 64)
def u5 (l:List (D af)) (r:Int) (d:Dk):Dk × Int:=aN (dj l r d (dk l)).1
def pQ (l:List (D af)) (r:Int) (d:Dk):Dk × Int:=aJ (u5 l r d).1 ((r + 1).tmod 2) (cf (r + 1) (bF l).1.length)
def b8 (d:Dk) (r:Int) (l:List (D af)):Dk × Int:=
 if fG l≠0 then (d,fG l)
 else if (dj l r d (dk l)).2≠0 then dj l r d (dk l)
 else if (u5 l r d).2≠0 then u5 l r d
 else if (pQ l r d).2≠0 then pQ l r d
 else aN (pQ l r d).1
theorem IQ {r:Int} (h:0<=r):0<=(r + 1).tmod 2/\(r + 1).tmod 2<=1:=by rw [Int.tmod_eq_emod_of_nonneg (by omega)];omega
theorem xp {l:List (D af)} (h:l.length<=100):(bF l).1.length<=275300:=by
 unfold bF
 split
 ·simp
 ·rename_i hb
  have:=tA (Ap (Classical.not_not.1 hb))
  show (cq l).length<=275300
  omega
theorem lB {l:List (D af)} (h:(bF l).2.isNil=true):(bF l).2 = .nil/\fG l=0:=by
 unfold bF at h ⊢
 split at h
 ·rename_i hb;exact absurd (aS.1 h) hb
 ·rename_i hb;rw [if_neg hb];exact ⟨rfl,Classical.not_not.1 hb⟩
theorem As {l:List (D af)} {r:Int} {d:Dk} (h:bf d 1000000) (pre:List Nat):bf (dj l r d pre).1 (1000000 + pre.length):=Ar _ pre h
theorem pz {l:List (D af)} (h:l.length<=100):cr (aI (bF l).1).length 64<=5000:=by
 have:=xp h
 unfold cr
 rw [aI,List.length_map];omega
theorem Gf {l:List (D af)} (d:Dk) (r:Int) (h:(bF l).2.isNil=false):b8 d r l=(d,fG l)/\fG l≠0/\(bF l).2=au (fG l):=by
 have hb:fG l≠0:=fun e=>by unfold bF at h;rw [if_neg (not_not_intro e)] at h;cases h
 exact ⟨by unfold b8;rw [if_pos hb],hb,by unfold bF;rw [if_pos hb]⟩
theorem mE {l o:List (D af)} {d:Dk} {r:Int} {z:Dk × Int} (hk:b8 d r l=z) (hz:z.2≠0) :
  (((r,o,()),z.1):(Int × List (D af) × Unit) × Dk)=(if (b8 d r l).2=0 then (r + 1,l,()) else (r,o,()),(b8 d r l).1)/\(au z.2,())=(au (b8 d r l).2,()):=by
 rw [hk,if_neg hz];exact ⟨rfl,rfl⟩
theorem Gg {l o:List (D af)} {d:Dk} {r:Int} {z:Dk × Int} (hk:b8 d r l=z) (hz:z.2=0) :
  (((r + 1,l,()),z.1):(Int × List (D af) × Unit) × Dk)=(if (b8 d r l).2=0 then (r + 1,l,()) else (r,o,()),(b8 d r l).1)/\(au z.2,())=(au (b8 d r l).2,()):=by
 rw [hk,if_pos hz];exact ⟨rfl,rfl⟩
theorem At (bs:List Int) (i:Nat) (rest:List Nat):∀(pre:List Nat) (d:Dk) (s:Int),(gv bs d s pre).2=0->(aJ (gv bs d s pre).1 (s + pre.length) (bytesOf (bT (t:=.int .u8) bs 64 i))).2≠0->
  gv bs d s (pre++i :: rest)=aJ (gv bs d s pre).1 (s + pre.length) (bytesOf (bT (t:=.int .u8) bs 64 i))
 | [],d,s,_,h=>by
  simp only [List.nil_append,gv,List.length_nil] at h ⊢
  rw [show s + ((0:Nat):Int)=s by omega] at h ⊢
  rw [if_neg h]
 | j :: r,d,s,h,h2=>by
  simp only [List.cons_append,gv] at h h2 ⊢
  by_cases h1:(aJ d s (bytesOf (bT (t:=.int .u8) bs 64 j))).2=0
  ·simp only [if_pos h1] at h h2 ⊢
   rw [List.length_cons,show s + ((r.length + 1:Nat):Int)=s + 1 + (r.length:Int) by omega] at h2 ⊢
   exact At bs i rest r _ _ h h2
  ·rw [if_neg h1] at h
   exact absurd h h1
theorem HZ {i m:Nat} (h:i < m):∃rest,List.range m=List.range i++i :: rest:=by
 obtain ⟨b,rfl⟩:∃b,m=i + (b + 1):=⟨m - i - 1,by omega⟩
 rw [List.range_add,List.range_succ_eq_map]
 exact ⟨_,by simp only [List.map_cons,Nat.add_zero];rfl⟩
theorem Em {l:List (D af)} {d:Dk} {r:Int} {pre:List Nat} {i:Nat} (h0:(bF l).2.isNil=true) (hp:(dj l r d pre).2=0) (e:pre=List.range i) (hi:pre.length < cr (aI (bF l).1).length 64)
  (hw:(aJ (dj l r d pre).1 (2 + (r + 1).tmod 2 * 55 + (pre.length:Int)) (bytesOf (bT (t:=.int .u8) (aI (bF l).1) 64 i))).2≠0) :
  b8 d r l=aJ (dj l r d pre).1 (2 + (r + 1).tmod 2 * 55 + (pre.length:Int)) (bytesOf (bT (t:=.int .u8) (aI (bF l).1) 64 i)):=by
 have hil:i < cr (aI (bF l).1).length 64:=by rw [e,List.length_range] at hi;exact hi
 obtain ⟨rest,hr⟩:=HZ hil
 have hall:dj l r d (dk l)=aJ (dj l r d pre).1 (2 + (r + 1).tmod 2 * 55 + (pre.length:Int)) (bytesOf (bT (t:=.int .u8) (aI (bF l).1) 64 i)):=by
  unfold dj dk
  rw [hr,<-e]
  exact At _ i rest pre d _ hp hw
 unfold b8
 rw [if_neg (not_not_intro (lB h0).2),hall,if_pos hw]
theorem Au {l:List (D af)} {d:Dk} {r:Int} {pre:List Nat} (i:Nat) (hp:(dj l r d pre).2=0) :
  dj l r d (pre++[i])=aJ (dj l r d pre).1 (2 + (r + 1).tmod 2 * 55 + (pre.length:Int)) (bytesOf (bT (t:=.int .u8) (aI (bF l).1) 64 i)):=Aq _ i pre d _ hp
theorem Jn {l:List (D af)} {d:Dk} {r:Int} (h0:(bF l).2.isNil=true) (hp:(dj l r d (dk l)).2=0) (hf:(u5 l r d).2≠0):b8 d r l=u5 l r d:=by
 unfold b8;rw [if_neg (not_not_intro (lB h0).2),if_neg (not_not_intro hp),if_pos hf]
theorem Jo {l:List (D af)} {d:Dk} {r:Int} (h0:(bF l).2.isNil=true) (hp:(dj l r d (dk l)).2=0) (hf:(u5 l r d).2=0) (hh:(pQ l r d).2≠0):b8 d r l=pQ l r d:=by
 unfold b8;rw [if_neg (not_not_intro (lB h0).2),if_neg (not_not_intro hp),if_neg (not_not_intro hf),if_pos hh]
theorem xq {l:List (D af)} {d:Dk} {r:Int} (h0:(bF l).2.isNil=true) (hp:(dj l r d (dk l)).2=0) (hf:(u5 l r d).2=0) (hh:(pQ l r d).2=0):b8 d r l=aN (pQ l r d).1:=by
 unfold b8;rw [if_neg (not_not_intro (lB h0).2),if_neg (not_not_intro hp),if_neg (not_not_intro hf),if_neg (not_not_intro hh)]
theorem tB {l:List (D af)} {r:Int} {d:Dk} (hl:l.length<=100) (h:bf d 1000000):bf (dj l r d (dk l)).1 1005000:=
 (As h (dk l)).mono (by have:=pz hl;unfold dk;rw [List.length_range];omega)
abbrev Sh:=(Int × List (D af) × Unit) × Dk
def ni (x:Sh) (l:List (D af)):Sh × Int:=((if (b8 x.2 x.1.1 l).2=0 then (x.1.1 + 1,l,()) else x.1,(b8 x.2 x.1.1 l).1),(b8 x.2 x.1.1 l).2)
def nj (l:List (D af)) (e:D af):Option (List (D af)):=if 0<=bQ l e.1 then some (l.set (bQ l e.1).toNat e) else if l.length=3 then none else some (l++[e])
def dh (x:Sh) (e:D af):Sh × Int:=
 if ay e≠0 then (x,ay e) else match nj x.1.2.1 e with
  | none=>(x,2)
  | some l=>ni x l
def bG (l:List (D af)) (s:aj):D af × Bool:=if 0<=bQ l s then (nth af l (bQ l s).toNat,true) else (bp af,false)
def df (x:Sh) (s:aj):Sh × Int:=
 if 0<=bQ x.1.2.1 s then ni x (x.1.2.1.eraseIdx (bQ x.1.2.1 s).toNat) else (x,5)
theorem kG (l:List (D af)) (s:aj):bQ l s < l.length/\-1<=bQ l s:=by
 unfold bQ
 split
 ·rename_i i h
  obtain ⟨h1,_⟩:=List.findIdx?_eq_some_iff_getElem.1 h
  omega
 ·omega
theorem xr {x:Sh} {e:D af} (h:ay e≠0):dh x e=(x,ay e):=by unfold dh;rw [if_pos h]
theorem CM {x:Sh} {e:D af} (h:ay e=0) (hi:0<=bQ x.1.2.1 e.1):dh x e=ni x (x.1.2.1.set (bQ x.1.2.1 e.1).toNat e):=by
 unfold dh nj;rw [if_neg (not_not_intro h),if_pos hi]
theorem Av {x:Sh} {e:D af} (h:ay e=0) (hi:¬ 0<=bQ x.1.2.1 e.1) (hl:(x.1.2.1.length:Int)=3):dh x e=(x,2):=by
 unfold dh nj;rw [if_neg (not_not_intro h),if_neg hi,if_pos (by omega)]
theorem v7 {x:Sh} {e:D af} (h:ay e=0) (hi:¬ 0<=bQ x.1.2.1 e.1) (hl:¬ (x.1.2.1.length:Int)=3):dh x e=ni x (x.1.2.1++[e]):=by
 unfold dh nj;rw [if_neg (not_not_intro h),if_neg hi,if_neg (by omega)]
theorem qV {α:Type} {o:List α} {b:Bool} (q:0 < o.length->b=false) (h:b=true):o = []:=by
 cases o with
 | nil=>rfl
 | cons a t=>rw [q (by simp)] at h;cases h
def bm (l:List (D af)):List aj:=l.map (·.1)
theorem kZ {l:List (D af)} {i:Nat} (h:i < l.length):bm (l.take i)++[(nth af l i).1]=bm (l.take (i + 1)):=by
 rw [fW (t:=af) h];simp [bm]
theorem u6 (l:List (D af)):(bm l).length=l.length:=by simp [bm]
theorem CN {l:List (D af)} {s:aj} (h:0<=bQ l s):bG l s=(nth af l (bQ l s).toNat,true):=by unfold bG;rw [if_pos h]
theorem Gh {l:List (D af)} {s:aj} (h:¬ 0<=bQ l s):bG l s=(bp af,false):=by unfold bG;rw [if_neg h]
theorem lC (s:aj):¬ 0<=bQ [] s:=fun h=>absurd (show (0:Int)<=-1 from h) (by decide)
end Go.Mrl

namespace Go.Mrl
open Go.Vg
def fl (l:List (D af)) (e:D af):List (D af) × Int:=if ay e > 0 then (l,ay e) else match nj l e with
 | none=>(l,2)
 | some l'=>(l',0)
def c7 (l:List (D af)) (s:aj):List (D af):=l.filter fun e=>decide (e.1≠s)
def dU (l:List (D af)) (s:aj):List (D af) × Int:=if (c7 l s).length=l.length then (l,5) else (c7 l s,0)
theorem u7 {l:List (D af)} {e:D af} (h:ay e > 0):fl l e=(l,ay e):=by unfold fl;rw [if_pos h]
theorem Aw {l:List (D af)} {e:D af} {i:Nat} (h:¬ ay e > 0) (hi:i < l.length) (hq:∀j,j < i->(nth af l j).1≠e.1) (he:(nth af l i).1=e.1):fl l e=(l.set i e,0):=by
 have hf:=px hi hq he
 unfold fl nj;rw [if_neg h,if_pos (by rw [hf];omega),hf];rfl
theorem xu {l:List (D af)} {e:D af} (h:¬ ay e > 0) (hq:∀j,j < l.length->(nth af l j).1≠e.1) (hl:(l.length:Int)=3):fl l e=(l,2):=by
 unfold fl nj;rw [if_neg h,if_neg (by rw [kg hq];decide),if_pos (by omega)]
theorem tC {l:List (D af)} {e:D af} (h:¬ ay e > 0) (hq:∀j,j < l.length->(nth af l j).1≠e.1) (hl:¬ (l.length:Int)=3):fl l e=(l++[e],0):=by
 unfold fl nj;rw [if_neg h,if_neg (by rw [kg hq];decide),if_neg (by omega)]
theorem Gi (l:List (D af)) (s:aj):(c7 l s).length<=l.length:=List.length_filter_le _ _
theorem u9 {l:List (D af)} {s:aj} {i:Nat} (h:i < l.length) (hn:(nth af l i).1≠s):c7 (l.take (i + 1)) s=c7 (l.take i) s++[nth af l i]:=by
 unfold c7;rw [fW (t:=af) h,List.filter_append];simp [hn]
theorem vb {l:List (D af)} {s:aj} {i:Nat} (h:i < l.length) (hn:(nth af l i).1=s):c7 (l.take (i + 1)) s=c7 (l.take i) s:=by
 unfold c7;rw [fW (t:=af) h,List.filter_append];simp [hn]
theorem En {l:List (D af)} {s:aj} (h:((c7 l s).length:Int)=(l.length:Int)):dU l s=(l,5):=by unfold dU;rw [if_pos (by omega)]
theorem Eo {l:List (D af)} {s:aj} (h:¬ ((c7 l s).length:Int)=(l.length:Int)):dU l s=(c7 l s,0):=by unfold dU;rw [if_neg (by omega)]
def bD (c:UInt8) (s:aj):List aj:=Lib.splitK [c] 1 (Lib.count s [c]) s
theorem xv (sep:aj) (save:Nat):∀(k:Nat) (s:aj),∀y∈Lib.splitK sep save k s,y.length<=s.length
 | 0,s,y,h=>by simp [Lib.splitK] at h;subst h;exact Nat.le_refl _
 | k + 1,s,y,h=>by
  unfold Lib.splitK at h
  split at h
  ·simp at h;subst h;exact Nat.le_refl _
  ·rcases List.mem_cons.1 h with rfl | h
   ·rw [List.length_take];exact Nat.min_le_right _ _
   ·exact Nat.le_trans (xv sep save k _ y h) (by rw [List.length_drop];omega)
theorem xw (c:UInt8) (s y:aj) (h:y∈bD c s):y.length<=s.length:=xv _ _ _ _ _ h
def dm (d:Dk):Dk × Int:=
 if (d.2.2.1.length:Int) < 112 then (d,8)
 else if (aJ d 1 []).2≠0 then aJ d 1 []
 else if (aN (aJ d 1 []).1).2≠0 then aN (aJ d 1 []).1
 else if (aJ (aN (aJ d 1 []).1).1 0 (cf 2 0)).2≠0 then aJ (aN (aJ d 1 []).1).1 0 (cf 2 0)
 else aN (aJ (aN (aJ d 1 []).1).1 0 (cf 2 0)).1
theorem CO {d:Dk} (h:(d.2.2.1.length:Int) < 112):dm d=(d,8):=by unfold dm;rw [if_pos h]
theorem KT {d:Dk} (h:¬ (d.2.2.1.length:Int) < 112) (h1:(aJ d 1 []).2≠0):dm d=aJ d 1 []:=by unfold dm;rw [if_neg h,if_pos h1]
theorem KU {d:Dk} (h:¬ (d.2.2.1.length:Int) < 112) (h1:(aJ d 1 []).2=0) (h2:(aN (aJ d 1 []).1).2≠0):dm d=aN (aJ d 1 []).1:=by
 unfold dm;rw [if_neg h,if_neg (not_not_intro h1),if_pos h2]
theorem KV {d:Dk} (h:¬ (d.2.2.1.length:Int) < 112) (h1:(aJ d 1 []).2=0) (h2:(aN (aJ d 1 []).1).2=0) (h3:(aJ (aN (aJ d 1 []).1).1 0 (cf 2 0)).2≠0):dm d=aJ (aN (aJ d 1 []).1).1 0 (cf 2 0):=by
 unfold dm;rw [if_neg h,if_neg (not_not_intro h1),if_neg (not_not_intro h2),if_pos h3]
theorem KW {d:Dk} (h:¬ (d.2.2.1.length:Int) < 112) (h1:(aJ d 1 []).2=0) (h2:(aN (aJ d 1 []).1).2=0) (h3:(aJ (aN (aJ d 1 []).1).1 0 (cf 2 0)).2=0):dm d=aN (aJ (aN (aJ d 1 []).1).1 0 (cf 2 0)).1:=by
 unfold dm;rw [if_neg h,if_neg (not_not_intro h1),if_neg (not_not_intro h2),if_neg (not_not_intro h3)]
theorem l9 {a b:Nat} (ha:a < 2 ^ 40) (hb:b < 2 ^ 40):F8 (a:Int) (b:Int)=((a ||| b:Nat):Int):=by
 have hlt:a ||| b < 2 ^ 40:=Nat.or_lt_two_pow ha hb
 have e:∀n:Nat,BitVec.ofInt IntKind.i64.bits (n:Int)=BitVec.ofNat IntKind.i64.bits n:=fun n=>BitVec.ofInt_natCast _ n
 unfold F8
 rw [e,e,<-BitVec.ofNat_or,BitVec.toNat_ofNat,Nat.mod_eq_of_lt (Nat.lt_of_lt_of_le hlt (by decide))]
 exact fE (by omega) (by omega)
theorem ma {a k:Nat} (ha:a < 2 ^ 8) (hk:k<=24):F9 (a:Int) k=((a * 2 ^ k:Nat):Int):=by
 unfold F9
 have h1:2 ^ k<=2 ^ 24:=Nat.pow_le_pow_right (by decide) hk
 have h2:a * 2 ^ k<=255 * 2 ^ 24:=Nat.mul_le_mul (by omega) h1
 rw [show ((a:Nat):Int) * (2:Int) ^ k=((a * 2 ^ k:Nat):Int) by simp]
 exact fE (by omega) (by omega)
theorem sE (s:aj):∃n:Nat,dB s=(n:Int)/\n < 2 ^ 32:=by
 have hb:∀i,(br s i).toNat < 2 ^ 8:=fun i=>(br s i).toNat_lt
 have h1:(br s 1).toNat * 2 ^ 8 < 2 ^ 32:=Nat.lt_of_lt_of_le (Nat.mul_lt_mul_of_pos_right (hb 1) (by decide)) (by decide)
 have h2:(br s 2).toNat * 2 ^ 16 < 2 ^ 32:=Nat.lt_of_lt_of_le (Nat.mul_lt_mul_of_pos_right (hb 2) (by decide)) (by decide)
 have h3:(br s 3).toNat * 2 ^ 24 < 2 ^ 32:=Nat.lt_of_lt_of_le (Nat.mul_lt_mul_of_pos_right (hb 3) (by decide)) (by decide)
 have h0:(br s 0).toNat < 2 ^ 32:=Nat.lt_of_lt_of_le (hb 0) (by decide)
 have w:∀{n:Nat},n < 2 ^ 32->n < 2 ^ 40:=fun h=>Nat.lt_of_lt_of_le h (by decide)
 unfold dB
 rw [ma (hb 1) (by decide),ma (hb 2) (by decide),ma (hb 3) (by decide),l9 (w h0) (w h1)]
 have a1:=Nat.or_lt_two_pow h0 h1
 rw [l9 (w a1) (w h2)]
 have a2:=Nat.or_lt_two_pow a1 h2
 rw [l9 (w a2) (w h3)]
 exact ⟨_,rfl,Nat.or_lt_two_pow a2 h3⟩
def qW (d:Dk) (i:Int):aj:=nth .str d.2.2.1 (Int.toNat i)
def km (d:Dk) (i:Nat):Int:=dB (List.drop 1 (List.take 5 (qW d i)))
def lA (d:Dk) (i:Nat):Int:=dB (List.drop 5 (List.take 9 (qW d i)))
def bU (d:Dk):Nat->Int × Int
 | 0=>(0,0)
 | i + 1=>if ((br (qW d i) 0).toNat:Int)=83/\(bU d i).1 < km d i/\lA d i<=3520 then (km d i,lA d i) else bU d i
def dK (d:Dk) (b:Int):Nat->aj
 | 0=>[]
 | i + 1=>dK d b i++qW d (b + (i:Int))
noncomputable def eJ (L:List aj):List (D af):=(L.filter fun s=>decide (s≠[])).map fun s=>(cU s).1
def Ax (L:List aj):Prop:=∃j,j < L.length/\nth .str L j≠[]/\(cU (nth .str L j)).2.isNil=false
def fe (d:Dk):Int:=2 + (bU d 2).1.tmod 2 * 55
def bC (d:Dk):List aj:=bD 10 (List.take (bU d 2).2.toNat (dK d (fe d) 55))
open Classical in
noncomputable def bu (d:Dk):(Int × List (D af)) × Int:=
 if d.1.2.1=true then ((0,[]),9) else if (d.2.2.1.length:Int) < 112 then ((0,[]),4) else if (bU d 2).1=0 then ((0,[]),4)
 else if Ax (bC d) then ((0,[]),4) else (((bU d 2).1,eJ (bC d)),0)
theorem rH (d:Dk):bU d 0=(0,0):=rfl
theorem IS (d:Dk) (i:Nat):bU d (i + 1)=if ((br (qW d i) 0).toNat:Int)=83/\(bU d i).1 < km d i/\lA d i<=3520 then (km d i,lA d i) else bU d i:=rfl
theorem IT (d:Dk) (b:Int):dK d b 0 = []:=rfl
theorem Ep (d:Dk) (b:Int) (i:Nat):dK d b (i + 1)=dK d b i++qW d (b + (i:Int)):=rfl
theorem kH (d:Dk) (i:Nat):km d i=dB (List.drop 1 (List.take 5 (nth .str d.2.2.1 i))):=rfl
theorem mb (d:Dk) (i:Nat):lA d i=dB (List.drop 5 (List.take 9 (nth .str d.2.2.1 i))):=rfl
theorem eU (d:Dk):fe d=2 + (bU d 2).1.tmod 2 * 55:=rfl
theorem cP (d:Dk):bC d=bD 10 (List.take (bU d 2).2.toNat (dK d (fe d) 55)):=rfl
theorem ow {d:Dk} {i:Nat} (h1:((br (nth .str d.2.2.1 i) 0).toNat:Int)=83) (h2:(bU d i).1 < km d i) (h3:lA d i<=3520):bU d (i + 1)=(km d i,lA d i):=by rw [IS];exact if_pos ⟨h1,h2,h3⟩
theorem nk {d:Dk} {i:Nat} (h:¬ (((br (nth .str d.2.2.1 i) 0).toNat:Int)=83/\(bU d i).1 < km d i/\lA d i<=3520)):bU d (i + 1)=bU d i:=by rw [IS];exact if_neg h
theorem cO (d:Dk):∀i,(0<=(bU d i).1/\(bU d i).1 < 4294967296)/\0<=(bU d i).2/\(bU d i).2<=3520
 | 0=>by rw [rH];decide
 | i + 1=>by
  by_cases h:((br (nth .str d.2.2.1 i) 0).toNat:Int)=83/\(bU d i).1 < km d i/\lA d i<=3520
  ·rw [ow h.1 h.2.1 h.2.2]
   obtain ⟨n,e,hn⟩:=sE (List.drop 1 (List.take 5 (nth .str d.2.2.1 i)))
   obtain ⟨m,e2,hm⟩:=sE (List.drop 5 (List.take 9 (nth .str d.2.2.1 i)))
   have h3:=h.2.2
   rw [kH,mb,e,e2]
   rw [mb,e2] at h3
   refine ⟨⟨by omega,?_⟩,by omega,h3⟩
   have:(n:Int) < ((2 ^ 32:Nat):Int):=Int.ofNat_lt.2 hn
   simpa using this
  ·rw [nk h];exact cO d i
theorem nn {a:Int} (h:0<=a):0<=a.tmod 2/\a.tmod 2<=1:=by rw [Int.tmod_eq_emod_of_nonneg h];omega
theorem eV {d:Dk} (hs:∀i,i < d.2.2.1.length->(nth .str d.2.2.1 i).length=64) {b:Int} (hb:0<=b):∀n:Nat,b + (n:Int)<=d.2.2.1.length->(dK d b n).length=64 * n
 | 0,_=>by rw [IT];rfl
 | n + 1,h=>by
  rw [Ep,List.length_append,eV hs hb n (by omega),show (qW d (b + (n:Int))).length=64 from hs _ (by omega)];omega
theorem Gj {d:Dk} (h:d.1.2.1=true):bu d=((0,[]),9):=by unfold bu;rw [if_pos h]
theorem Ay {d:Dk} (h1:d.1.2.1=false) (h:(d.2.2.1.length:Int) < 112):bu d=((0,[]),4):=by unfold bu;rw [if_neg (by rw [h1];decide),if_pos h]
theorem xx {d:Dk} (h1:d.1.2.1=false) (h:¬ (d.2.2.1.length:Int) < 112) (h5:(bU d 2).1=0):bu d=((0,[]),4):=by unfold bu;rw [if_neg (by rw [h1];decide),if_neg h,if_pos h5]
theorem H0 {d:Dk} (h1:d.1.2.1=false) (h:¬ (d.2.2.1.length:Int) < 112) (h5:¬ (bU d 2).1=0) (hb:Ax (bC d)):bu d=((0,[]),4):=by unfold bu;rw [if_neg (by rw [h1];decide),if_neg h,if_neg h5,if_pos hb]
theorem CP {d:Dk} (h1:d.1.2.1=false) (h:¬ (d.2.2.1.length:Int) < 112) (h5:¬ (bU d 2).1=0) (hb:¬ Ax (bC d)):bu d=(((bU d 2).1,eJ (bC d)),0):=by unfold bu;rw [if_neg (by rw [h1];decide),if_neg h,if_neg h5,if_neg hb]
theorem Gk {L:List aj} {i:Nat} (h:i < L.length) (he:nth .str L i = []):eJ (L.take (i + 1))=eJ (L.take i):=by
 unfold eJ;rw [fW (t:=.str) h,List.filter_append,he];simp
theorem Gl {L:List aj} {i:Nat} (h:i < L.length) (he:nth .str L i≠[]):eJ (L.take (i + 1))=eJ (L.take i)++[(cU (nth .str L i)).1]:=by
 unfold eJ;rw [fW (t:=.str) h,List.filter_append];simp [he]
theorem H2 (L:List aj):(eJ L).length<=L.length:=by unfold eJ;rw [List.length_map];exact List.length_filter_le _ _
theorem Jp {L:List aj} {i:Nat} (hi:¬ i < L.length) (h:∀j,j < i->nth .str L j = []\/(cU (nth .str L j)).2.isNil=true):¬ Ax L:=by
 rintro ⟨j,h1,h2,h3⟩
 rcases h j (by omega) with h | h
 ·exact h2 h
 ·rw [h] at h3;cases h3
theorem ve (sep:aj) (save:Nat):∀(k:Nat) (s:aj),(Lib.splitK sep save k s).length<=k + 1
 | 0,s=>by simp [Lib.splitK]
 | k + 1,s=>by
  unfold Lib.splitK
  split
  ·simp
  ·rw [List.length_cons];have:=ve sep save k (s.drop ((Lib.index s sep).toNat + sep.length));omega
theorem Er (c:UInt8) (s:aj):(bD c s).length<=s.length + 1:=by
 unfold bD
 refine Nat.le_trans (ve _ _ _ _) ?_
 rw [Lib.count_one]
 have:=List.count_le_length (a:=c) (l:=s)
 omega
theorem Gm:eJ [] = []:=rfl
noncomputable def dq (d:Dk):Dk × Int:=Classical.choose (⟨dm d,rfl⟩:∃y,y=dm d)
theorem gi (d:Dk):dq d=dm d:=Classical.choose_spec (⟨dm d,rfl⟩:∃y,y=dm d)
attribute [irreducible] bU dK eJ fe bC km lA
end Go.Mrl

namespace Go.Vg
open Go.RowKit
def v8 (t:Ty):aY:=fun args st K=>
 match args with
 | [.one (.ax n), .one a, .one b]=>match look st.ag n,nM (.int .i64) a,nM (.int .i64) b with
  | some (.ax t' xs),some i,some j=>match Ty.beq t' t with
   | true => .and (0<=(i:Int)/\(i:Int) < (j:Int)/\(j:Int)<=xs.length)
     (K (.s (.one (.ax st.next))) (fresh (aA (aA st n) n) (.ax t' (xs.take (i:Int).toNat++xs.drop (j:Int).toNat))))
   | false => .ff
  | _,_,_ => .ff
 | _ => .ff
def Gn (P:Program) (f:FuncId) (sz:Nat):Prop:=∀(b i j n cap:Nat) (vs:Array Value) (T:TypeId) (w:World),w.heap[b]?=some (.cells vs T (0,0))->vs.size=cap * sz->i < j->j<=n->n<=cap->n<=av->
 (∀(k:Nat) u,k < n * sz->vs[k]?=some u->u.oneCell'=true)->
 Calls P f #[.slice (some ⟨b,0,none⟩) n cap, .int .i64 (i:Int), .int .i64 (j:Int)] w fun e w'=>e = .returned (.slice (some ⟨b,0,none⟩) (i + (n - j)) cap)/\w'.os=w.os/\w'.output=w.output/\w'.heap.size=w.heap.size/\(∀k,k≠b->w'.heap[k]?=w.heap[k]?)/\
  ∃vs':Array Value,w'.heap[b]?=some (.cells vs' T (0,0))/\vs'.size=vs.size/\∀k,k < (i + (n - j)) * sz->vs'[k]?=vs[if k < i * sz then k else k + (j - i) * sz]?
theorem H3 {i j:Int} {n:Nat} (h0:0<=i) (hij:i < j) (hj:j<=n):∃i' j':Nat,i=(i':Int)/\j=(j':Int)/\i' < j'/\j'<=n:=
 ⟨i.toNat,j.toNat,by omega,by omega,by omega,by omega⟩
section
variable {P:Program} {X:Ext} {f:FuncId}
theorem Es {B:Cx} {t:Ty} (hfn:∃fn,P.funcs[f]?=some fn/\fn.body.isNone=false/\(fn.name == "runtime.NumGoroutine")=false) (H:Gn P f t.size) :
  bw P B.eT X f false (v8 t):=by
 refine ⟨hfn,fun O st loc w args vs K hs g hO ha => ?_⟩
 unfold v8 at hs
 split at hs
 case h_2=>exact hs.elim
 rename_i n ca cb
 split at hs
 case h_2=>exact hs.elim
 rename_i t' xs i j hob hi hj
 split at hs
 case h_2=>exact hs.elim
 rename_i ht
 have ht':=Ty.eq_of_beq ht
 subst ht'
 obtain ⟨⟨h0,hij,hjx⟩,hs⟩:=hs
 match vs,ha with
 | [v0,v1,v2], .cons a0 (.cons a1 (.cons a2 .nil))=>
 have key:=H3 h0 hij hjx
 clear h0 hij hjx
 obtain ⟨i,j,rfl,rfl,hij,hjx⟩:=key
 have hs:(K (.s (.one (.ax st.next))) (fresh (aA (aA st n) n) (.ax t' (xs.take i++xs.drop j)))).holds:=hs
 have e1:v1 = .int .i64 (i:Int):=(bd.1 (kq hi a1)).1
 have e2:v2 = .int .i64 (j:Int):=(bd.1 (kq hj a2)).1
 subst e1 e2
 have hvl:=a0.2 _ _ hob
 rcases (g.obj n _ hob).2 with ⟨rfl,_⟩ | ⟨b,cs,T,cap,hl1,cY,hheap,hsz,hfit,hbig,he⟩
 ·simp at hjx;omega
 have hv0:=hvl.trans hl1
 subst hv0
 have hxs:List.length xs * t'.size<=cs.size:=by rw [hsz];exact Nat.mul_le_mul_right _ hfit
 obtain ⟨olds,ho,ho1,ho3,ho4⟩:=kR (cx:=B) he hxs
 refine (H b i j xs.length cap cs T w hheap hsz hij hjx hfit hbig (fun k u hk hu=>ho4 u ?_)).mono ?_
 ·refine List.mem_of_getElem? (i:=k) ?_
  rw [ho,List.getElem?_take,if_pos hk,Array.getElem?_toList];exact hu
 rintro r w' ⟨rfl,k1,k2,k3,k4,cs',k5,k6,k7⟩
 have hl':(xs.take i++xs.drop j).length=i + (xs.length - j):=by rw [List.length_append,List.length_take,List.length_drop];omega
 obtain ⟨tr,gd⟩:=lP (w':=w') (oc:=.ax t' (xs.take i++xs.drop j)) (l:=⟨.slice (some ⟨b,0,none⟩) (i + (xs.length - j)) cap,[b]⟩) g hO n n k1 k2 (Nat.le_of_eq k3.symm)
  (fun k oc' hk hl=>by
   have:k=n:=by rcases hk with h | h <;> exact h
   subst this;rw [hob] at hl;cases hl;rfl)
  (fun b' hlt hb=>k4 b' fun e'=>hb n _ (.inl rfl) hob (by rw [e',show (loc n).bs=_ from cY];simp))
  (fun b' hbm=>by
   simp at hbm
   subst hbm
   exact .inl ⟨n,_, .inl rfl,hob,by rw [show (loc n).bs=_ from cY];simp⟩)
 have gd:=gd (.inr ⟨b,cs',T,cap,by rw [hl'],rfl,k5,by rw [k6,hsz],by rw [hl'];omega,by rw [hl'];unfold av at *;omega,fun k y hy=>by
  have hk:k < i + (xs.length - j):=by have:=aE hy;rw [hl'] at this;exact this
  obtain ⟨k',hk',hyx⟩:∃k',(k'=if k < i then k else k + (j - i))/\xs[k']?=some y:=by
   refine ⟨_,rfl,?_⟩
   rw [List.getElem?_append,List.length_take] at hy
   by_cases h:k < i
   ·rw [if_pos (by omega),List.getElem?_take,if_pos h] at hy
    rw [if_pos h];exact hy
   ·rw [if_neg (by omega),List.getElem?_drop] at hy
    rw [if_neg h]
    rw [show j + (k - min i xs.length)=k + (j - i) by omega] at hy
    exact hy
  obtain ⟨us,r1,r2⟩:=he k' y hyx
  refine ⟨us,r1.frame tr.cell,fun q u hq => ?_⟩
  have hql:q < t'.size:=by have:=aE hq;rw [r1.length] at this;exact this
  have hm:(k + 1) * t'.size<=(i + (xs.length - j)) * t'.size:=Nat.mul_le_mul_right _ hk
  rw [Nat.add_mul,Nat.one_mul] at hm
  rw [k7 _ (by omega)]
  have:=r2 q u hq
  by_cases h:k < i
  ·rw [if_pos h] at hk'
   subst hk'
   have hm2:(k' + 1) * t'.size<=i * t'.size:=Nat.mul_le_mul_right _ h
   rw [Nat.add_mul,Nat.one_mul] at hm2
   rw [if_pos (by omega)];exact this
  ·rw [if_neg h] at hk'
   have hm2:i * t'.size<=k * t'.size:=Nat.mul_le_mul_right _ (by omega)
   rw [if_neg (by omega)]
   rw [hk',Nat.add_mul] at this
   rw [show k * t'.size + q + (j - i) * t'.size=k * t'.size + (j - i) * t'.size + q by omega];exact this⟩)
 exact ⟨_,_,_,_,rfl,hs,rfl,(fun hq=>by cases hq),gd,tr,⟨by simp [ae,fresh,aA],fun t xs hy=>by simp [ae,aP]⟩⟩
end
end Go.Vg

namespace Go.Mrl
open Go.Vg
theorem ib {n:Int} {k:Nat} (h0:0<=n) (h:n < ((10 ^ (k + 1):Nat):Int)):(Lib.itoa n).length<=k + 1:=by
 unfold Lib.itoa;rw [if_neg (by omega)]
 exact jj k n.toNat (by omega)
theorem Gp {n:Int} (h:dP (-2147483648) 2147483647 n):(Lib.itoa n).length<=11:=by
 have h1:=h.1;have h2:=h.2
 by_cases hn:n < 0
 ·rw [FH hn,List.length_append,List.length_singleton]
  have:=ib (n:=-n) (k:=9) (by omega) (by omega)
  omega
 ·have:=ib (n:=n) (k:=9) (by omega) (by omega);omega
theorem wa {α:Type} {f:α->aj} {m:Nat}:∀{l:List α},(∀x∈l,(f x).length<=m)->(l.flatMap f).length<=m * l.length
 | [],_=>by simp
 | a :: r,h=>by
  have h1:=h a (by simp)
  have h2:=wa (l:=r) fun x hx=>h x (by simp [hx])
  rw [List.flatMap_cons,List.length_append,List.length_cons,Nat.mul_add,Nat.mul_one];omega
theorem Az {p:D ai} (h1:Nm p.1) (h2:dP 1 1000000 p.2.1) (h3:dP 0 255 p.2.2.1):(hH p).length<=21:=by
 have a:=h1.2.1
 have b:=ib (n:=p.2.1) (k:=6) (by have:=h2.1;omega) (by have:=h2.2;omega)
 have c:=ib (n:=p.2.2.1) (k:=2) (by have:=h3.1;omega) (by have:=h3.2;omega)
 simp [hH];omega
theorem AA {p:D aq} (h1:dP 0 5 p.1) (h2:dP 0 39 p.2.1) (h3:dP (-2147483648) 2147483647 p.2.2.1):(hU p).length<=17:=by
 have a:=ib (n:=p.1) (k:=0) (by have:=h1.1;omega) (by have:=h1.2;omega)
 have b:=ib (n:=p.2.1) (k:=1) (by have:=h2.1;omega) (by have:=h2.2;omega)
 have c:=Gp h3
 simp [hU];omega
theorem BU {e:D af} (hf:ay e=0):(cy e).length<=752:=by
 have h:=gq hf
 have a1:=h.nm.2.1
 have a2:=ib (n:=(e.2.1.length:Int)) (k:=0) (by omega) (by have:=h.p6;omega)
 have a3:=ib (n:=(e.2.2.1.length:Int)) (k:=1) (by omega) (by have:=h.xf;omega)
 have hh:(pk e).length<=13:=by simp [pk];omega
 have b:=wa (f:=hH) (m:=21) (l:=e.2.1) fun x hx=>by
  obtain ⟨j,hj,rfl⟩:=gA (t:=ai) hx
  obtain ⟨k1,k2,k3⟩:=h.parts j hj
  exact Az k1 k2 k3
 have c:=wa (f:=hU) (m:=17) (l:=e.2.2.1) fun x hx=>by
  obtain ⟨j,hj,rfl⟩:=gA (t:=aq) hx
  obtain ⟨k1,k2,k3⟩:=h.z1 j hj
  exact AA k1 k2 k3
 have d1:=h.p6;have d2:=h.xf
 unfold cy lS dM dS
 rw [List.take_length,List.take_length,List.length_append,List.length_append,List.length_append,List.length_singleton]
 omega
theorem pA:∀{l:List (D af)},(∀e∈l,ay e=0)->(cq l).length<=752 * l.length
 | [],_=>by simp [cq]
 | e :: r,h=>by
  have h1:=BU (h e (by simp))
  have h2:=pA (l:=r) fun x hx=>h x (by simp [hx])
  have h3:cq (e :: r)=cy e++cq r:=rfl
  rw [h3,List.length_append,List.length_cons];omega
theorem xy {c:UInt8}:∀{l r:aj},c∉l->Lib.index (l++c :: r) [c]=(l.length:Int)
 | [],r,_=>qJ
 | b :: l,r,h=>by
  have hb:b≠c:=fun e=>h (by rw [e];simp)
  rw [List.cons_append,qI hb,xy (l:=l) (r:=r) fun k=>h (List.mem_cons_of_mem _ k),List.length_cons]
  rw [if_neg (by simp)]
  omega
theorem BV {c:UInt8} {l r:aj} (h:c∉l):bD c (l++[c]++r)=(l++[c]) :: bD c r:=by
 have hc:Lib.count (l++[c]++r) [c]=Lib.count r [c] + 1:=by
  rw [Lib.count_one,Lib.count_one,List.append_assoc,List.count_append,List.count_eq_zero_of_not_mem h]
  simp
 have hi:Lib.index (l++[c]++r) [c]=(l.length:Int):=by rw [List.append_assoc];exact xy h
 unfold bD
 rw [hc,Lib.splitK,hi,if_neg (by simp)]
 have e1:((l.length:Int)).toNat + 1=(l++[c]).length:=by simp
 have e2:((l.length:Int)).toNat + [c].length=(l++[c]).length:=by simp
 rw [e2,List.drop_left,e1,List.take_left]
theorem Et (c:UInt8):bD c [] = [[]]:=by
 unfold bD;rw [Lib.count_one];rfl
theorem vf:∀{l:List (D af)},(∀e∈l,ay e=0)->bD 10 (cq l)=l.map cy++[[]]
 | [],_=>Et 10
 | e :: r,h=>by
  have h3:cq (e :: r)=lS e++[10]++cq r:=rfl
  rw [h3,BV (Ec (gq (h e (by simp)))),vf (l:=r) fun x hx=>h x (by simp [hx])]
  rfl
theorem H4 (e:D af):cy e≠[]:=by unfold cy;simp
theorem vg {e:D af} (h:ay e=0):cU (cy e)=(e, .nil):=by unfold cU;rw [CI h rfl];rfl
theorem H5 {l:List (D af)} (h:∀e∈l,ay e=0):eJ (l.map cy++[[]])=l:=by
 unfold eJ
 rw [List.filter_append,List.filter_eq_self.2 fun s hs=>by
  obtain ⟨e,_,rfl⟩:=List.mem_map.1 hs
  exact decide_eq_true (H4 e)]
 simp only [List.filter_cons,List.filter_nil,ne_eq,not_true_eq_false,decide_false,Bool.false_eq_true,if_false,List.append_nil,List.map_map]
 have:l.map ((fun s=>(cU s).1) ∘ cy)=l.map id:=List.map_congr_left fun e he=>by simp only [Function.comp];rw [vg (h e he)];rfl
 rw [this,List.map_id]
theorem H6 {l:List (D af)} (h:∀e∈l,ay e=0):¬ Ax (l.map cy++[[]]):=by
 rintro ⟨j,h1,h2,h3⟩
 have hm:nth .str (l.map cy++[[]]) j∈l.map cy++[[]]:=gz (t:=.str) h1
 rcases List.mem_append.1 hm with hm | hm
 ·obtain ⟨e,he,k⟩:=List.mem_map.1 hm
  rw [<-k,vg (h e he)] at h3;cases h3
 ·exact h2 (List.mem_singleton.1 hm)
theorem Gq (n:Int):py n=n % 256:=by
 unfold py;simp [IntKind.wrap,IntKind.signed,IntKind.bits]
theorem np {n:Nat} {m:Int} {k:Nat} (h:m=((n / 2 ^ k:Nat):Int)):(UInt8.ofNat (Int.toNat (py m))).toNat=n / 2 ^ k % 256:=by
 rw [Gq,h,show ((n / 2 ^ k:Nat):Int) % 256=((n / 2 ^ k % 256:Nat):Int) by omega,Int.toNat_natCast]
 simp [UInt8.toNat_ofNat']
theorem tD (n k:Nat):((n:Nat):Int).fdiv (2 ^ k)=((n / 2 ^ k:Nat):Int):=by
 rw [Int.fdiv_eq_ediv_of_nonneg _ (Int.le_of_lt (Int.pow_pos (by decide)))]
 simp
theorem AB {a b k:Nat} (h:a < 2 ^ k):a ||| b * 2 ^ k=a + b * 2 ^ k:=by
 have:=Nat.two_pow_add_eq_or_of_lt h b
 rw [Nat.mul_comm,Nat.or_comm];omega
theorem xz {n:Nat} (h:n < 2 ^ 32):dB (ei (n:Int))=(n:Int):=by
 have b0:(br (ei (n:Int)) 0).toNat=n / 2 ^ 0 % 256:=np (n:=n) (k:=0) (by simp)
 have b1:(br (ei (n:Int)) 1).toNat=n / 2 ^ 8 % 256:=np (tD n 8)
 have b2:(br (ei (n:Int)) 2).toNat=n / 2 ^ 16 % 256:=np (tD n 16)
 have b3:(br (ei (n:Int)) 3).toNat=n / 2 ^ 24 % 256:=np (tD n 24)
 have l:∀k,n / 2 ^ k % 256 < 2 ^ 8:=fun k=>Nat.mod_lt _ (by decide)
 unfold dB
 rw [b0,b1,b2,b3,ma (l 8) (by decide),ma (l 16) (by decide),ma (l 24) (by decide)]
 have l0:=l 0;have l1:=l 8;have l2:=l 16;have l3:=l 24
 generalize hb0:n / 2 ^ 0 % 256=x0 at *
 generalize hb1:n / 2 ^ 8 % 256=x1 at *
 generalize hb2:n / 2 ^ 16 % 256=x2 at *
 generalize hb3:n / 2 ^ 24 % 256=x3 at *
 rw [l9 (by omega) (by omega),AB (k:=8) (by omega),l9 (by omega) (by omega),AB (k:=16) (by omega),l9 (by omega) (by omega),AB (k:=24) (by omega)]
 congr 1
 omega
end Go.Mrl

namespace Go.Mrl
open Go.Vg
structure ki (d:Dk):Prop where
 down:d.1.2.1=false
 gg:(d.1.1:Int) = -1
 len:112<=d.2.2.1.length
 sec:∀i,i < d.2.2.1.length->(nth .str d.2.2.1 i).length=64
 H7:d.2.1.length=d.2.2.1.length
theorem tE {s:aj} (h:s.length<=64):(bE s).length=64:=by unfold bE;simp;omega
theorem qX {d:Dk} (g:ki d):stepOf d=(d,0):=by
 unfold stepOf
 rw [if_neg (by rw [g.down];decide),if_neg (by rw [g.gg];decide)]
 have hf:=g.gg
 have hd:=g.down
 obtain ⟨⟨f,dn,u⟩,rest⟩:=d
 simp only at hf hd
 subst hd
 rw [if_neg (by show ¬ 0 < f;omega)]
theorem lV {d:Dk} (g:ki d) {a:Int} {s:aj} (h0:0<=a) (h1:a < d.2.2.1.length) (hs:s.length<=64) :
  (aJ d a s).2=0/\(aJ d a s).1.2.2.1=d.2.2.1.set a.toNat (bE s)/\ki (aJ d a s).1:=by
 have e:aJ d a s=((d.1,d.2.1,d.2.2.1.set a.toNat (bE s),d.2.2.2.1++[(a,bE s,())],()),0):=by
  unfold aJ
  rw [if_neg (by omega),qX g,if_pos rfl]
 rw [e]
 refine ⟨rfl,rfl,g.down,g.gg,by rw [List.length_set];exact g.len,fun i hi => ?_,by rw [List.length_set];exact g.H7⟩
 show (nth .str (d.2.2.1.set a.toNat (bE s)) i).length=64
 have hi:i < (d.2.2.1.set a.toNat (bE s)).length:=hi
 rw [List.length_set] at hi
 by_cases c:a.toNat=i
 ·subst c;rw [jY (t:=.str) hi];exact tE hs
 ·rw [jX (t:=.str) c];exact g.sec i hi
theorem lW {d:Dk} (g:ki d):(aN d).2=0/\(aN d).1.2.2.1=d.2.2.1/\ki (aN d).1:=by
 have e:aN d=((d.1,d.2.2.1,d.2.2.1,[],()),0):=by
  unfold aN
  rw [qX g,if_pos rfl]
 rw [e]
 exact ⟨rfl,rfl,g.down,g.gg,g.len,g.sec,rfl⟩
theorem AD (bs:List Int):∀(pre:List Nat) {d:Dk} {s:Int},ki d->0<=s->s + (pre.length:Int)<=d.2.2.1.length->
  (gv bs d s pre).2=0/\ki (gv bs d s pre).1/\(gv bs d s pre).1.2.2.1.length=d.2.2.1.length/\
  (∀j,j < pre.length->nth .str (gv bs d s pre).1.2.2.1 (s.toNat + j)=bE (bytesOf (bT (t:=.int .u8) bs 64 (pre.getD j 0))))/\
  (∀i,i < s.toNat\/s.toNat + pre.length<=i->nth .str (gv bs d s pre).1.2.2.1 i=nth .str d.2.2.1 i)
 | [],d,s,g,h0,h1=>⟨rfl,g,rfl,fun j hj=>absurd hj (Nat.not_lt_zero _),fun i _=>rfl⟩
 | p :: r,d,s,g,h0,h1=>by
  have hc:(bytesOf (bT (t:=.int .u8) bs 64 p)).length<=64:=by rw [bytesOf,List.length_map,lT];exact Nat.min_le_left _ _
  rw [List.length_cons] at h1
  obtain ⟨w1,w2,w3⟩:=lV g (a:=s) h0 (by omega) hc
  have hl:(aJ d s (bytesOf (bT (t:=.int .u8) bs 64 p))).1.2.2.1.length=d.2.2.1.length:=by rw [w2,List.length_set]
  obtain ⟨k1,k2,k3,k4,k5⟩:=AD bs r (s:=s + 1) w3 (by omega) (by rw [hl];omega)
  have e:gv bs d s (p :: r)=gv bs (aJ d s (bytesOf (bT (t:=.int .u8) bs 64 p))).1 (s + 1) r:=by
   rw [gv,if_pos w1]
  rw [e]
  have hs1:(s + 1).toNat=s.toNat + 1:=by omega
  refine ⟨k1,k2,k3.trans hl,fun j hj => ?_,fun i hi => ?_⟩
  ·cases j with
   | zero=>
    rw [Nat.add_zero,k5 s.toNat (.inl (by omega)),w2,jY (t:=.str) (by omega)]
    rfl
   | succ j=>
    have:=k4 j (by simpa using hj)
    rw [hs1] at this
    rw [show s.toNat + (j + 1)=s.toNat + 1 + j by omega,this]
    rfl
  ·rw [List.length_cons] at hi
   rw [k5 i (by omega),w2,jX (t:=.str) (by omega)]
theorem CQ {d:Dk} (hs:∀i,i < d.2.2.1.length->(nth .str d.2.2.1 i).length=64) {b:Int} (hb:0<=b):∀(n:Nat),b + (n:Int)<=d.2.2.1.length->∀i,i < 64 * n->(dK d b n)[i]?=(nth .str d.2.2.1 (b.toNat + i / 64))[i % 64]?
 | 0,_,i,hi=>by omega
 | n + 1,h,i,hi=>by
  have hl:=eV hs hb n (by omega)
  rw [Ep]
  by_cases c:i < 64 * n
  ·rw [List.getElem?_append_left (by rw [hl];exact c)]
   exact CQ hs hb n (by omega) i c
  ·rw [List.getElem?_append_right (by rw [hl];omega),hl]
   have e1:i / 64=n:=by omega
   have e2:i - 64 * n=i % 64:=by omega
   rw [e1,e2,show qW d (b + (n:Int))=nth .str d.2.2.1 (b.toNat + n) from congrArg (nth .str d.2.2.1) (by omega)]
theorem Gr (t:aj) (j r:Nat) (hr:r < 64):(bytesOf (bT (t:=.int .u8) (aI t) 64 j))[r]?=t[j * 64 + r]?:=by
 have e:bytesOf (bT (t:=.int .u8) (aI t) 64 j)=(t.drop (j * 64)).take 64:=by
  have h:∀l:aj,bytesOf (aI l)=l:=uI
  have h2:bT (t:=.int .u8) (aI t) 64 j=aI ((t.drop (j * 64)).take 64):=by simp [bT,aI,List.map_take,List.map_drop]
  rw [h2,h]
 rw [e,List.getElem?_take,if_pos hr,List.getElem?_drop]
theorem Jq {d:Dk} (hs:∀i,i < d.2.2.1.length->(nth .str d.2.2.1 i).length=64) {b:Int} (hb:0<=b) (hb2:b + 55<=d.2.2.1.length) {t:aj} (ht:t.length<=3520)
  (hw:∀j,j < cr t.length 64->nth .str d.2.2.1 (b.toNat + j)=bE (bytesOf (bT (t:=.int .u8) (aI t) 64 j))):(dK d b 55).take t.length=t:=by
 apply List.ext_getElem?
 intro i
 by_cases c:i < t.length
 ·rw [List.getElem?_take,if_pos c,CQ hs hb 55 hb2 i (by omega)]
  have hj:i / 64 < cr t.length 64:=by unfold cr;omega
  rw [hw _ hj]
  unfold bE
  have hg:=Gr t (i / 64) (i % 64) (Nat.mod_lt _ (by decide))
  have hi:i / 64 * 64 + i % 64=i:=by omega
  rw [hi] at hg
  have hlt:i % 64 < (bytesOf (bT (t:=.int .u8) (aI t) 64 (i / 64))).length:=by
   apply Classical.byContradiction
   intro hn
   rw [List.getElem?_eq_none (by omega)] at hg
   rw [List.getElem?_eq_getElem c] at hg
   cases hg
  rw [List.getElem?_append_left hlt,hg]
 ·rw [List.getElem?_take,if_neg c,List.getElem?_eq_none (by omega)]
end Go.Mrl

namespace Go.Mrl
open Go.Vg
theorem Gs (a b:Int) (s:aj):List.drop 1 (List.take 5 (cf a b++s))=ei a/\List.drop 5 (List.take 9 (cf a b++s))=ei b/\(br (cf a b++s) 0).toNat=83:=by
 refine ⟨rfl,rfl,rfl⟩
theorem AE {d:Dk} {p:Nat} {a b:Nat} (h:nth .str d.2.2.1 p=bE (cf a b)) (ha:a < 2 ^ 32) (hb:b < 2 ^ 32) :
  ((br (nth .str d.2.2.1 p) 0).toNat:Int)=83/\km d p=(a:Int)/\lA d p=(b:Int):=by
 obtain ⟨h1,h2,h3⟩:=Gs a b (List.replicate (64 - (cf a b).length) 0)
 rw [kH,mb,h]
 unfold bE
 exact ⟨by rw [h3];rfl,by rw [h1];exact xz ha,by rw [h2];exact xz hb⟩
structure dJ (d:Dk) (r:Nat) (l:List (D af)):Prop where
 ju:ki d
 quiet:d.2.2.2.1 = []
 nK:∀e∈l,ay e=0
 iX:l.length<=3
 r2:2<=r
 rM:r<=1000000000
 head:nth .str d.2.2.1 (r % 2)=bE (cf r (cq l).length)
 other:((br (nth .str d.2.2.1 (1 - r % 2)) 0).toNat:Int)≠83\/km d (1 - r % 2) < (r:Int)
 text:(dK d (2 + ((r % 2:Nat):Int) * 55) 55).take (cq l).length=cq l
theorem qY:∀{l:List (D af)},(∀e∈l,ay e=0)->fG l=0
 | [],_=>rfl
 | e :: r,h=>by unfold fG;rw [if_neg (not_not_intro (h e (by simp)))];exact qY fun x hx=>h x (by simp [hx])
theorem dJ.small {d:Dk} {r:Nat} {l:List (D af)} (h:dJ d r l):(cq l).length<=2256:=by
 have:=pA h.nK;have:=h.iX;omega
theorem dJ.K4 {d:Dk} {r:Nat} {l:List (D af)} (h:dJ d r l):bU d 2=((r:Int),((cq l).length:Int)):=by
 have hr:=h.r2;have hM:=h.rM;have hs:=h.small
 obtain ⟨k1,k2,k3⟩:=AE h.head (by omega) (by omega)
 have ho:=h.other
 rcases Nat.mod_two_eq_zero_or_one r with e | e
 ·rw [e] at k1 k2 k3 ho
  have h1:bU d 1=((r:Int),((cq l).length:Int)):=by
   rw [ow k1 (by rw [rH,k2];show (0:Int) < r;omega) (by rw [k3];omega),k2,k3]
  rw [nk (i:=1) fun hh => ?_,h1]
  rcases ho with ho | ho
  ·exact ho hh.1
  ·have h2:=hh.2.1
   rw [h1] at h2
   have h2:(r:Int) < km d 1:=h2
   have ho:km d 1 < (r:Int):=ho
   omega
 ·rw [e] at k1 k2 k3 ho
  have h1:(bU d 1).1 < (r:Int):=by
   by_cases c:((br (nth .str d.2.2.1 0) 0).toNat:Int)=83/\(bU d 0).1 < km d 0/\lA d 0<=3520
   ·rw [ow c.1 c.2.1 c.2.2]
    rcases ho with ho | ho
    ·exact absurd c.1 ho
    ·exact ho
   ·rw [nk c,rH];show (0:Int) < r;omega
  rw [ow (i:=1) k1 (by rw [k2];exact h1) (by rw [k3];omega),k2,k3]
theorem dJ.lines {d:Dk} {r:Nat} {l:List (D af)} (h:dJ d r l):bC d=l.map cy++[[]]:=by
 rw [cP,eU,h.K4]
 have e:((r:Int)).tmod 2=((r % 2:Nat):Int):=by rw [Int.tmod_eq_emod_of_nonneg (by omega)];omega
 simp only [e,Int.toNat_natCast]
 rw [h.text,vf h.nK]
theorem dJ.opens {d:Dk} {r:Nat} {l:List (D af)} (h:dJ d r l):bu d=(((r:Int),l),0):=by
 have h5:=h.K4
 rw [CP h.ju.down (by have:=h.ju.len;omega) (by rw [h5];have:=h.r2;show ¬ (r:Int)=0;omega) (by rw [h.lines];exact H6 h.nK),h.lines,H5 h.nK,h5]
end Go.Mrl

namespace Go.Mrl
open Go.Vg
theorem Eu {l:List (D af)} (h:∀e∈l,ay e=0):(bF l).1=cq l:=by unfold bF;rw [if_neg (not_not_intro (qY h))]
theorem sF {d:Dk} (g:ki d):(aN d).1.2.2.2.1 = []:=by
 have e:aN d=((d.1,d.2.2.1,d.2.2.1,[],()),0):=by unfold aN;rw [qX g,if_pos rfl]
 rw [e]
theorem Jr {d:Dk} {r:Nat} {l l':List (D af)} (h:dJ d r l) (hf:∀e∈l',ay e=0) (hn:l'.length<=3) (hr:r + 1<=1000000000) :
  (b8 d r l').2=0/\dJ (b8 d r l').1 (r + 1) l':=by
 have hb:=qY hf
 have ht:=Eu hf
 have hs:(cq l').length<=2256:=by have:=pA hf;omega
 have hlen:=h.ju.len
 obtain ⟨p,hp,hpd⟩:∃p:Nat,p<=1/\p=(r + 1) % 2:=⟨_,by omega,rfl⟩
 have hm:((r:Int) + 1).tmod 2=(p:Int):=by rw [Int.tmod_eq_emod_of_nonneg (by omega)];omega
 have hq:r % 2=1 - p:=by omega
 have hN:(dk l').length=cr (cq l').length 64:=by unfold dk;rw [List.length_range,ht,sj]
 have hN2:cr (cq l').length 64<=36:=by unfold cr;omega
 obtain ⟨a1,a2,a3,a4,a5⟩:=AD (aI (cq l')) (dk l') (s:=2 + (p:Int) * 55) h.ju (by omega) (by rw [hN];omega)
 have ew:dj l' r d (dk l')=gv (aI (cq l')) d (2 + (p:Int) * 55) (dk l'):=by unfold dj;rw [ht,hm]
 rw [<-ew] at a1 a2 a3 a4 a5
 obtain ⟨b1,b2,b3⟩:=lW a2
 have ef:u5 l' r d=aN (dj l' r d (dk l')).1:=rfl
 rw [<-ef] at b1 b2 b3
 obtain ⟨c1,c2,c3⟩:=lV b3 (a:=(p:Int)) (s:=cf ((r:Int) + 1) (cq l').length) (by omega) (by rw [b2,a3];omega) (by rw [xm];decide)
 have eh:pQ l' r d=aJ (u5 l' r d).1 (p:Int) (cf ((r:Int) + 1) (cq l').length):=by unfold pQ;rw [ht,hm]
 rw [<-eh] at c1 c2 c3
 obtain ⟨e1,e2,e3⟩:=lW c3
 have ek:b8 d r l'=aN (pQ l' r d).1:=by
  unfold b8
  rw [if_neg (not_not_intro hb),if_neg (not_not_intro a1),if_neg (not_not_intro b1),if_neg (not_not_intro c1)]
 rw [ek]
 have hsec:(aN (pQ l' r d).1).1.2.2.1=(dj l' r d (dk l')).1.2.2.1.set p (bE (cf ((r:Int) + 1) (cq l').length)):=by
  rw [e2,c2,b2,Int.toNat_natCast]
 have hpl:p < (dj l' r d (dk l')).1.2.2.1.length:=by rw [a3];omega
 have htn:(2 + (p:Int) * 55).toNat=2 + p * 55:=by omega
 rw [htn] at a4 a5
 refine ⟨e1,{ju:=e3,quiet:=sF c3,nK:=hf,iX:=hn,r2:=by have:=h.r2;omega,rM:=hr,head:=?_,other:=?_,text:=?_}⟩
 ·rw [<-hpd,hsec,jY (t:=.str) hpl];rfl
 ·rw [<-hpd]
  have hk:nth .str (aN (pQ l' r d).1).1.2.2.1 (1 - p)=nth .str d.2.2.1 (1 - p):=by
   rw [hsec,jX (t:=.str) (by omega),a5 _ (.inl (by omega))]
  have hh:=h.head
  rw [hq] at hh
  have hM:=h.rM
  have hsm:=h.small
  obtain ⟨k1,k2,k3⟩:=AE hh (by omega) (by omega)
  right
  rw [kH,hk,<-kH,k2]
  omega
 ·rw [<-hpd]
  refine Jq (b:=2 + (p:Int) * 55) (fun i hi=>e3.sec i hi) (by omega) (by rw [hsec,List.length_set,a3];omega) (by omega) fun j hj => ?_
  rw [htn,hsec,jX (t:=.str) (by omega),a4 j (by rw [hN];exact hj)]
  unfold dk
  rw [ht,sj,List.getD_eq_getElem?_getD,List.getElem?_range hj];rfl
end Go.Mrl

namespace Go.Mrl
open Go.Vg
theorem kI {n:Int} (h:112<=n):ki (fC n) where
 down:=rfl
 gg:=rfl
 len:=by show 112<=(List.replicate n.toNat (bE [])).length;rw [List.length_replicate];omega
 sec:=fun i hi=>by
  have:i < (List.replicate n.toNat (bE [])).length:=hi
  rw [show nth .str (fC n).2.2.1 i=bE [] from List.eq_of_mem_replicate (gz (t:=.str) this)];exact tE (by decide)
 H7:=rfl
theorem AF {n:Int} (_:1<=n):bu (fC n)=((0,[]),4):=by
 by_cases c:((fC n).2.2.1.length:Int) < 112
 ·exact Ay rfl c
 ·have hz:∀i,i < 2->((br (nth .str (fC n).2.2.1 i) 0).toNat:Int)≠83:=by
   intro i hi
   rw [show nth .str (fC n).2.2.1 i=bE [] from List.eq_of_mem_replicate (gz (t:=.str) (show i < (fC n).2.2.1.length by omega))]
   decide
  refine xx rfl c ?_
  rw [nk fun hh=>hz 1 (by omega) hh.1,nk fun hh=>hz 0 (by omega) hh.1,rH]
theorem jA {d:Dk} (g:ki d):(dq d).2=0/\dJ (dq d).1 2 []:=by
 rw [gi]
 have hlen:=g.len
 obtain ⟨a1,a2,a3⟩:=lV g (a:=1) (s:=[]) (by omega) (by omega) (by decide)
 obtain ⟨b1,b2,b3⟩:=lW a3
 obtain ⟨c1,c2,c3⟩:=lV b3 (a:=0) (s:=cf 2 0) (by omega) (by rw [b2,a2,List.length_set];omega) (by rw [xm];decide)
 obtain ⟨e1,e2,e3⟩:=lW c3
 have ek:dm d=aN (aJ (aN (aJ d 1 []).1).1 0 (cf 2 0)).1:=by
  unfold dm
  rw [if_neg (by omega),if_neg (not_not_intro a1),if_neg (not_not_intro b1),if_neg (not_not_intro c1)]
 rw [ek]
 have hsec:(aN (aJ (aN (aJ d 1 []).1).1 0 (cf 2 0)).1).1.2.2.1=(d.2.2.1.set 1 (bE [])).set 0 (bE (cf 2 0)):=by
  rw [e2,c2,b2,a2];rfl
 refine ⟨e1,{ju:=e3,quiet:=sF c3,nK:=fun e he=>absurd he (by simp),iX:=by simp,r2:=Nat.le_refl _,rM:=by decide,head:=?_,other:=.inl ?_,text:=rfl}⟩
 ·rw [hsec];exact jY (t:=.str) (by rw [List.length_set];omega)
 ·rw [hsec]
  show ((br (nth .str ((d.2.2.1.set 1 (bE [])).set 0 (bE (cf 2 0))) 1) 0).toNat:Int)≠83
  rw [jX (t:=.str) (by omega),jY (t:=.str) (by omega)]
  decide
structure bt (x:Sh) (m:List (D af)) (k:Nat):Prop where
 list:x.1.2.1=m
 names:(m.map (·.1)).Nodup
 wb:∃r:Nat,(x.1.1:Int)=(r:Int)/\r<=2 + k/\dJ x.2 r m
theorem pB {x:Sh} {m l:List (D af)} {k:Nat} (h:bt x m k) (hk:k<=1000) (hf:∀e∈l,ay e=0) (hl:l.length<=3) (hn:(l.map (·.1)).Nodup):(ni x l).2=0/\bt (ni x l).1 l (k + 1):=by
 obtain ⟨r,h1,h2,h3⟩:=h.wb
 obtain ⟨k1,k2⟩:=Jr h3 hf hl (by omega)
 unfold ni
 rw [show (x.1.1:Int)=(r:Int) from h1,if_pos k1]
 exact ⟨k1,rfl,hn,r + 1,rfl,by omega,k2⟩
theorem bt.next {x:Sh} {m:List (D af)} {k:Nat} (h:bt x m k):bt x m (k + 1):=⟨h.list,h.names,let ⟨r,h1,h2,h3⟩:=h.wb;⟨r,h1,by omega,h3⟩⟩
theorem Gt {m:List (D af)} {e:D af} {i:Nat} (hi:i < m.length) (he:(nth af m i).1=e.1):(m.set i e).map (·.1)=m.map (·.1):=by
 apply List.ext_getElem?
 intro j
 rw [List.getElem?_map,List.getElem?_map,List.getElem?_set]
 by_cases c:i=j
 ·subst c
  rw [if_pos rfl,if_pos hi]
  have:=qC (t:=af) hi
  rw [this];simp [he]
 ·rw [if_neg c]
theorem H8 {p:Nat->Prop} (h:∃i,p i):∃i,(∀j,j < i->¬ p j)/\p i:=by
 obtain ⟨i,hi⟩:=h
 induction i using Nat.strongRecOn with
 | ind i ih=>
  by_cases c:∃j,j < i/\p j
  ·obtain ⟨j,h1,h2⟩:=c;exact ih j h1 h2
  ·exact ⟨i,fun j hj hp=>c ⟨j,hj,hp⟩,hi⟩
theorem CS (m:List (D af)) (s:aj):(∃i,i < m.length/\(∀j,j < i->(nth af m j).1≠s)/\(nth af m i).1=s/\bQ m s=(i:Int))\/((∀j,j < m.length->(nth af m j).1≠s)/\bQ m s = -1):=by
 by_cases h:∃i,i < m.length/\(nth af m i).1=s
 ·left
  obtain ⟨i,h0,h1,h2⟩:=H8 h
  exact ⟨i,h1,fun j hj e=>h0 j hj ⟨by omega,e⟩,h2,px h1 (fun j hj e=>h0 j hj ⟨by omega,e⟩) h2⟩
 ·right
  have h':∀j,j < m.length->(nth af m j).1≠s:=fun j hj e=>h ⟨j,hj,e⟩
  exact ⟨h',kg h'⟩
theorem H9 {m:List (D af)} {e:D af} {i:Nat} (h:∀x∈m,ay x=0) (he:ay e=0):∀x∈m.set i e,ay x=0:=fun x hx=>by
 rcases List.mem_or_eq_of_mem_set hx with h1 | h1
 ·exact h x h1
 ·exact h1▸he
theorem AG {m:List (D af)} {s:aj} (h:∀j,j < m.length->(nth af m j).1≠s):s∉m.map (·.1):=fun hm=>by
 obtain ⟨e,he,rfl⟩:=List.mem_map.1 hm
 obtain ⟨j,hj,rfl⟩:=gA (t:=af) he
 exact h j hj rfl
theorem gj {x:Sh} {m:List (D af)} {k:Nat} (h:bt x m k) (hk:k<=1000) (e:D af):(dh x e).2=(fl m e).2/\bt (dh x e).1 (fl m e).1 (k + 1):=by
 obtain ⟨r,h1,h2,h3⟩:=h.wb
 have hl:=h.list
 by_cases hf:ay e=0
 ·rcases CS m e.1 with ⟨i,i1,i2,i3,i4⟩ | ⟨j1,j2⟩
  ·rw [CM hf (by rw [hl,i4];omega),hl,i4,Aw (by omega) i1 i2 i3,Int.toNat_natCast]
   exact pB h hk (H9 h3.nK hf) (by rw [List.length_set];exact h3.iX) (by rw [Gt i1 i3];exact h.names)
  ·by_cases c:(m.length:Int)=3
   ·rw [Av hf (by rw [hl,j2];omega) (by rw [hl];exact c),xu (by omega) j1 c]
    exact ⟨rfl,h.next⟩
   ·rw [v7 hf (by rw [hl,j2];omega) (by rw [hl];exact c),hl,tC (by omega) j1 c]
    refine pB h hk (fun y hy => ?_) (by rw [List.length_append,List.length_singleton];have:=h3.iX;omega) ?_
    ·rcases List.mem_append.1 hy with hy | hy
     ·exact h3.nK y hy
     ·rw [List.mem_singleton.1 hy];exact hf
    ·rw [List.map_append,List.nodup_append]
     refine ⟨h.names,by simp,fun a ha b hb hab => ?_⟩
     rw [List.map_singleton,List.mem_singleton] at hb
     exact AG j1 (by rw [<-hb,<-hab];exact ha)
 ·have:=pM e
  rw [xr hf,u7 (by omega)]
  exact ⟨rfl,h.next⟩
theorem vh {m:List (D af)} {s:aj} (h:s∉m.map (·.1)):c7 m s=m:=by
 unfold c7
 exact List.filter_eq_self.2 fun e he=>decide_eq_true fun hh=>h (List.mem_map.2 ⟨e,he,hh⟩)
theorem AH:∀{m:List (D af)} {s:aj} {i:Nat},(m.map (·.1)).Nodup->i < m.length->(nth af m i).1=s->c7 m s=m.eraseIdx i
 | [],_,_,_,h,_=>absurd h (Nat.not_lt_zero _)
 | e :: r,s,0,hn,_,he=>by
  have he:e.1=s:=he
  rw [List.map_cons,List.nodup_cons] at hn
  have h2:=vh (m:=r) (s:=s) (by rw [<-he];exact hn.1)
  unfold c7 at *
  rw [List.filter_cons,if_neg (by simp [he]),h2];rfl
 | e :: r,s,i + 1,hn,hi,he=>by
  have he:(nth af r i).1=s:=he
  rw [List.map_cons,List.nodup_cons] at hn
  have hi:i < r.length:=by simpa using hi
  have h2:=AH (m:=r) (s:=s) (i:=i) hn.2 hi he
  have hne:e.1≠s:=fun hh=>hn.1 (by rw [hh,<-he];exact List.mem_map.2 ⟨_,gz (t:=af) hi,rfl⟩)
  unfold c7 at *
  rw [List.filter_cons,if_pos (decide_eq_true hne),h2];rfl
theorem fM {x:Sh} {m:List (D af)} {k:Nat} (h:bt x m k) (hk:k<=1000) (s:aj):(df x s).2=(dU m s).2/\bt (df x s).1 (dU m s).1 (k + 1):=by
 obtain ⟨r,h1,h2,h3⟩:=h.wb
 have hl:=h.list
 rcases CS m s with ⟨i,i1,i2,i3,i4⟩ | ⟨j1,j2⟩
 ·have e:=AH h.names i1 i3
  have el:(m.eraseIdx i).length=m.length - 1:=by rw [List.length_eraseIdx,if_pos i1]
  have ed:dU m s=(m.eraseIdx i,0):=by unfold dU;rw [if_neg (by rw [e,el];omega),e]
  unfold df
  rw [if_pos (by rw [hl,i4];omega),hl,i4,ed,Int.toNat_natCast]
  exact pB h hk (fun y hy=>h3.nK y (List.mem_of_mem_eraseIdx hy)) (by rw [el];have:=h3.iX;omega) (h.names.sublist ((List.eraseIdx_sublist m i).map _))
 ·have e:=vh (AG j1)
  have ed:dU m s=(m,5):=by unfold dU;rw [if_pos (by rw [e]),]
  unfold df
  rw [if_neg (by rw [hl,j2];omega),ed]
  exact ⟨rfl,h.next⟩
end Go.Mrl

namespace Go.Mrl
open Go.Vg
noncomputable def mF:Sh:=((2,[],()),(dq (fC 112)).1)
theorem kj:bt mF [] 0:=⟨rfl,List.nodup_nil,2,rfl,Nat.le_refl _,(jA (kI (Int.le_refl _))).2⟩
theorem bt.at {x:Sh} {m:List (D af)} {k:Nat} (h:bt x m k):∃r:Nat,x.1=((r:Int),m,())/\r<=2 + k/\dJ x.2 r m:=by
 obtain ⟨r,h1,h2,h3⟩:=h.wb
 exact ⟨r,Prod.ext h1 (Prod.ext h.list rfl),h2,h3⟩
theorem bt.opens {x:Sh} {m:List (D af)} {k:Nat} (h:bt x m k):bu x.2=((x.1.1,m),0):=by
 obtain ⟨r,h1,h2,h3⟩:=h.at
 rw [h3.opens,h1]
theorem bt.rI {x:Sh} {m:List (D af)} {k:Nat} (h:bt x m k):(bu x.2).2=0:=by rw [h.opens]
theorem bt.again {x:Sh} {m:List (D af)} {k:Nat} (h:bt x m k):(((bu x.2).1.1,(bu x.2).1.2,()):Int × List (D af) × Unit)=x.1:=by
 rw [h.opens];exact Prod.ext rfl (Prod.ext h.list.symm rfl)
theorem dJ.lX {d:Dk} {r:Nat} {l:List (D af)} (h:dJ d r l):bf d 1000000:=⟨by have:=h.ju.gg;omega,by rw [h.quiet];exact Nat.zero_le _,h.ju.H7⟩
theorem bt.lX {x:Sh} {m:List (D af)} {k:Nat} (h:bt x m k):bf x.2 1000000:=let ⟨_,_,_,h3⟩:=h.at;h3.lX
theorem bt.sec {x:Sh} {m:List (D af)} {k:Nat} (h:bt x m k):∀i,i < x.2.2.2.1.length->(nth .str x.2.2.2.1 i).length=64:=let ⟨_,_,_,h3⟩:=h.at;h3.ju.sec
theorem bt.iX {x:Sh} {m:List (D af)} {k:Nat} (h:bt x m k):x.1.2.1.length<=3:=by rw [h.list];let ⟨_,_,_,h3⟩:=h.at;exact h3.iX
theorem bt.round {x:Sh} {m:List (D af)} {k:Nat} (h:bt x m k):0<=(x.1.1:Int)/\(x.1.1:Int)<=2 + k:=by
 obtain ⟨r,h1,h2,_⟩:=h.wb
 omega
theorem bt.each {x:Sh} {m:List (D af)} {k:Nat} (h:bt x m k):∀i,i < x.1.2.1.length->(nth af x.1.2.1 i).2.1.length<=1000000/\(nth af x.1.2.1 i).2.2.1.length<=1000000:=fun i hi=>by
 obtain ⟨r,h1,h2,h3⟩:=h.at
 have hl:=h.list
 rw [hl] at hi ⊢
 have h:=gq (h3.nK _ (gz (t:=af) hi))
 have h1:=h.p6
 have h2:=h.xf
 exact ⟨by omega,by omega⟩
theorem bt.Ia {x:Sh} {m:List (D af)} {k:Nat} (h:bt x m k) (hk:k<=1000):x.1.2.1.length<=100/\0<=(x.1.1:Int)/\(x.1.1:Int)<=1000000000/\bf x.2 1000000:=
 ⟨Nat.le_trans h.iX (by decide),h.round.1,by have:=h.round.2;omega,h.lX⟩
theorem bt.Js {x:Sh} {m:List (D af)} {k:Nat} (h:bt x m k) (hk:k<=1000):x.1.2.1.length<=99/\0<=(x.1.1:Int)/\(x.1.1:Int)<=1000000000/\bf x.2 1000000:=
 ⟨Nat.le_trans h.iX (by decide),h.round.1,by have:=h.round.2;omega,h.lX⟩
theorem BW (m:List (D af)) (e:D af):0<=(fl m e).2:=by
 unfold fl
 split
 ·have:=pM e;exact this
 ·split
  ·show (0:Int)<=2;decide
  ·exact Int.le_refl 0
theorem AI (m:List (D af)) (s:aj):0<=(dU m s).2:=by
 unfold dU
 split
 ·show (0:Int)<=5;decide
 ·exact Int.le_refl 0
theorem bt.fR {x:Sh} {m:List (D af)} {k:Nat} (h:bt x m k) (hk:k<=1000) (e:D af):cT (au (dh x e).2) (fl m e).2=true:=by
 rw [(gj h hk e).1];exact sg (BW m e)
theorem bt.KX {x:Sh} {m:List (D af)} {k:Nat} (h:bt x m k) (hk:k<=1000) (s:aj):cT (au (df x s).2) (dU m s).2=true:=by
 rw [(fM h hk s).1];exact sg (AI m s)
theorem Ev:ay tw=0:=by decide
theorem La:(fl [] tw)=([tw],0):=by
 rw [tC (by rw [Ev];decide) (fun j hj=>absurd hj (Nat.not_lt_zero _)) (by decide)];rfl
theorem cQ:(dh mF tw).2=0/\bt (dh mF tw).1 [tw] 1:=by
 have:=gj kj (by decide) tw
 rw [La] at this
 exact this
theorem tG {a b:List (List UInt8)} (h:a=b):eL a b=true:=decide_eq_true h
theorem bt.self {x:Sh} {m:List (D af)} {k:Nat} (h:bt x m k):bt x x.1.2.1 k:=by rw [h.list];exact h
theorem bt.nq {x:Sh} {m:List (D af)} {k:Nat} (h:bt x m k):(bu x.2).1.2=x.1.2.1:=by rw [h.opens,h.list]
theorem bt.IU {x:Sh} {m:List (D af)} {k:Nat} (h:bt x m k):∀i,i < (bu x.2).1.2.length->(nth af (bu x.2).1.2 i).2.1.length<=1000000/\(nth af (bu x.2).1.2 i).2.2.1.length<=1000000:=by
 rw [h.nq];exact h.each
theorem bt.KA {x:Sh} {m:List (D af)} {k:Nat} (h:bt x m k):(bu x.2).1.2.length<=1000000:=by
 rw [h.nq];exact Nat.le_trans h.iX (by decide)
theorem bt.len {x:Sh} {m:List (D af)} {k:Nat} (h:bt x m k):x.1.2.1.length<=1000000:=Nat.le_trans h.iX (by decide)
theorem bt.KB {x:Sh} {m:List (D af)} {k:Nat} (h:bt x m k):m.length<=1000000:=by rw [<-h.list];exact h.len
theorem AJ (n:Int):bf (fC n) 1000000/\∀i,i < (fC n).2.2.1.length->(nth .str (fC n).2.2.1 i).length=64:=
 ⟨⟨Int.le_refl _,Nat.zero_le _,rfl⟩,fun i hi=>by
  rw [show nth .str (fC n).2.2.1 i=bE [] from List.eq_of_mem_replicate (gz (t:=.str) hi)];exact tE (by decide)⟩
theorem mG {n:Int} (h:112<=n):bt ((2,[],()),(dq (fC n)).1) [] 0:=⟨rfl,List.nodup_nil,2,rfl,Nat.le_refl _,(jA (kI h)).2⟩
theorem Ew {n:Int} (h:n < 112):cT (au (dq (fC n)).2) 8=true:=by
 rw [gi,CO (d:=fC n) (by show ((List.replicate n.toNat (bE [])).length:Int) < 112;rw [List.length_replicate];omega)];rfl
theorem Ib {n:Int} (h:1<=n):cT (au (bu (fC n)).2) 4=true:=by rw [AF h];rfl
end Go.Mrl

namespace Go.Vg
open Go
theorem BX {H:Type} {enc:TypeId × Value->H} {a:Assume} {C:Checked} {os:Os} {f:FuncId} {fn:Func} {s:ChangeSpec} {conds:List PathCond} {apart fresh handsOn again:Bool} {X:World->Array Value->Prop}
  (hX:∀(w w':World) (args:Array Value),w.heap=w'.heap->X w args->X w' args)
  (own:ownKnob C.prog.godebug=none) (started:os.Started) (noInit:C.prog.inits.idxOf? f=none) (hfn:C.prog.funcs[f]?=some fn)
  (witness:∃(w:World) (tape:Tape) (i:Input),w.os=os/\(w.forCall tape i).Shaped C.prog/\i.vars = []/\Input.okWide C.prog (w.forCall tape i) .any w.heap.size f i/\
   ((s.pre enc C.prog fn conds apart (w.forCall tape i).memory i.args/\X (w.forCall tape i).memory i.args)/\sizedMet enc C.prog fn (OpenSpec.ofChange s) apart (w.forCall tape i).memory i.args)/\a.holds C.prog (lone (Frame.enter C.prog f i.args .normal) [] (w.forCall tape i)))
  (contract:∀(W:World) (base:Nat) (args:Array Value) (ds gs:List (DataW H)) (before:List MemPlace),
   (∀(j:Nat) t v,fn.params[j]?=some t->args[j]?=some v->Value.okWide C.prog W .any base t v)->
   DataW.Whole enc C.prog fn.params.toList s.vars apart W args.toList ds gs before->
   X W args->W.ShapedOpen C.prog->
   Calls C.prog f args W fun e W'=>∃v,e = .returned v/\s.post enc C.prog fn apart fresh handsOn again W args v W') :
  ReturnsInHanded a C os f .any (fun w args=>(s.pre enc C.prog fn conds apart w args/\X w args)/\sizedMet enc C.prog fn (OpenSpec.ofChange s) apart w args) (s.post enc C.prog fn apart fresh handsOn again):=by
 refine returnsInHanded_of_calls own started noInit witness ?_
 intro w tape i _ hsh _ hok hpre hholds
 obtain ⟨_,_,_,fn',hfn',_,_,_,_,hval⟩:=hok
 have e:fn'=fn:=Option.some.inj (hfn'.symm.trans hfn)
 subst e
 obtain ⟨⟨⟨ds,gs,before,hw,hc⟩,hx⟩,hz⟩:=hpre
 have hw':=DataW.Whole.of_heap (w':=w.forCall tape i) (by rfl) hw
 refine (contract (w.forCall tape i) w.heap.size i.args ds gs before hval hw' (hX _ _ _ (by rfl) hx) hsh).mono fun e W' ⟨v,he,hp⟩ => ?_
 subst he
 exact ChangeSpec.post_blind hp
theorem AK {P:Program} {w:World} {g:Nat} {t:TypeId} {zero:Array Value} (h:w.ShapedOpen P) (hg:g < P.globals.size)
  (h0:((begin P (fun _ _=>0) default).world.heap[g]?).bind Obj.row?=some (zero,t)) (hz:zero.size=1)
  (hb:P.buildable t=true) (hc:P.cellTypes P.depth t=some [t]) (hu:P.underlying t=some (.int .i64)):∃m,w.cell? ⟨g,0,none⟩=some (.int .i64 m):=by
 obtain ⟨cs,hh,hs,hr⟩:=h.1 g zero t hg h0
 obtain ⟨ts,hts,_,hall⟩:=hr hb
 rw [hc] at hts
 cases hts
 have h1:0 < cs.size:=by omega
 obtain ⟨u,hu',hok⟩:=hall 0 cs[0] (by simp [h1])
 have:u=t:=by simpa using hu'.symm
 subst this
 have hcell:w.cell? ⟨g,0,none⟩=some cs[0]:=by simp [World.cell?,hh,h1]
 rw [hcell]
 unfold Cell.ok at hok
 rw [hu] at hok
 cases hv:cs[0] <;> rw [hv] at hok <;> first | exact hok.elim | (obtain ⟨rfl,_⟩:=hok;exact ⟨_,rfl⟩) | simp at hok
def IV:Option TypeDesc->Bool
 | some (.interface _)=>true
 | _=>false
theorem ox {P:Program} {W:World} {name nm:String} {d:DataW Unit} {g:Nat} {t:TypeId}
  (hg:P.globalNamed name=some g) (hty:(P.globals[g]?).map (·.type)=some t) (hi:IV (P.underlying t)=true)
  (h:Lib.VarReads P W name (.iface nm d)):∃ev,W.cell? ⟨g,0,none⟩=some ev/\(ev = .nilIface\/∃te pe,ev = .iface te pe):=by
 obtain ⟨g',t',cs,fuel,p,hg',ht',hvar,hd⟩:=h
 obtain rfl:=Option.some.inj (hg.symm.trans hg')
 obtain rfl:=Option.some.inj (hty.symm.trans ht')
 have hc:=World.var?_cell hg hvar 0
 obtain ⟨ms,hu⟩:∃ms,P.underlying t=some (.interface ms):=by
  unfold IV at hi
  split at hi
  ·rename_i ms hm;exact ⟨ms,hm⟩
  ·cases hi
 cases fuel with
 | zero=>simp [DataW.trod] at hd
 | succ n=>
  cases hl:cs.toList with
  | nil=>rw [hl] at hd;simp [DataW.trod,hu] at hd
  | cons v r=>
   have h0:cs[0]?=some v:=by rw [<-Array.getElem?_toList,hl];rfl
   rw [h0] at hc
   refine ⟨v,hc,?_⟩
   rw [hl] at hd
   cases v <;> first | exact .inl rfl | exact .inr ⟨_,_,rfl⟩ | (simp [DataW.trod,hu] at hd)
theorem AL {P:Program} {W:World} {name:String} {k:IntKind} {zs:List Int} {g:Nat} {t e:TypeId} {n:Nat}
  (hg:P.globalNamed name=some g) (hty:(P.globals[g]?).map (·.type)=some t) (ht:P.underlying t=some (.array n e)) (he:P.underlying e=some (.int k)) (hce:P.cellsOf e=1) (hct:P.cellsOf t=n)
  (h:Lib.VarReads P W name (Lib.tabData k zs)):Lib.TabIs P W name k zs:=by
 obtain ⟨g',t',cs,fuel,p,hg',ht',hvar,hd⟩:=h
 obtain rfl:=Option.some.inj (hg.symm.trans hg')
 obtain rfl:=Option.some.inj (hty.symm.trans ht')
 unfold Lib.TabIs
 rw [hvar,<-Lib.cells_of_tab ht he hce hct hd]
end Go.Vg

