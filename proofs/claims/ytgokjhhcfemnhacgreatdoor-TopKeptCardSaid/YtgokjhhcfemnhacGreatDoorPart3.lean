/- A part of the proof that the law TopKeptCard holds of the given program: facts that are used there. -/
import Derived.Test.YtgokjhhcfemnhacGreatDoorPart2
import Derived.Handed
import Derived.Clock
import Derived.Lib.LaidTab
import Derived.Lib.LaidU8
import Derived.Lay
set_option linter.unusedSimpArgs false
set_option linter.unusedVariables false
set_option linter.defProp false
noncomputable section
open List renaming length_append->ab,take->ad,length_cons->ae,length_set->af,drop->ah,mem_map->al,length_take->ao,range->ax,map_cons->az,mem_singleton->bc,cons_append->bh,length_map->bj,length_range->bk,filter_append->bp,length_singleton->bt,filter_cons->bu,mem_append->bw,replicate->bx,nodup_cons->bz,mem_cons->b6,nil_append->b7,length_nil->b8,length_drop->b9,take_length->cc,append_assoc->cd,filter_eq_self->cf,ext_getElem?->ch,mem_or_eq_of_mem_set->cj,length_eraseIdx->ck
open Go.Lib renaming splitK->ag,count_one->ba,count->bm,index->bq
open Prod renaming ext->ai
open Int renaming toNat_natCast->aj,le_refl->aw,tmod_eq_emod_of_nonneg->ay,le_trans->bd,ofNat_le->b4
open Nat renaming lt_of_lt_of_le->ak,le_trans->aq,le_refl->a7,or_lt_two_pow->a8,mul_le_mul_right->bb,mul_lt_mul_of_pos_right->bo,add_mul->br,not_lt_zero->cg
open Option.some renaming inj->ar
open Go.IntKind renaming wrap->au,i64->av
open BitVec renaming ofInt->bf
open Classical renaming not_not->bg
open Go.DataW renaming trod->b5
open Go.OpenSpec renaming ofChange->cm
namespace Go.Mrl
open Go.Vg
def eB(l:List (D aC))(s:aD):Int:=match l.findIdx? (fun e=>decide (e.1=s))with
 |some i=>(i:Int)
 |none =>-1
def rm{l:List (D aC)}{s:aD}(h:∀j,j<l.length->(nth aC l j).1≠s):eB l s= -1:=by
 unfold eB;rw[List.findIdx?_eq_none_iff.2 fun e he=>by
  obtain⟨j,hj,rfl⟩:=gR (t:=aC) he;exact decide_eq_false (h j hj)]
def AX{l:List (D aC)}{s:aD}{i:Nat}(hi:i<l.length)(h:∀j,j<i->(nth aC l j).1≠s)(he:(nth aC l i).1=s):eB l s=(i:Int):=by
 unfold eB;have hn:∀j (hj:j<l.length),l[j]=nth aC l j:=fun j hj=>by unfold nth;rw[List.getD_eq_getElem?_getD,List.getElem?_eq_getElem hj];rfl
 rw[(List.findIdx?_eq_some_iff_getElem (xs:=l) (p:=fun e=>decide (e.1=s)) (i:=i)).2 ⟨hi,by rw[hn i hi];exact decide_eq_true he,fun j hj=>by
  rw[hn j (by omega)];simp only[decide_eq_true_eq];exact h j hj⟩]
def vu(n:Int):Int:=au .u8 n
def jW(n:Int):aD:=bytesOf [vu n,vu (n.fdiv (2^8)),vu (n.fdiv (2^16)),vu (n.fdiv (2^24))]
def fJ(a b:Int):aD:=[83]++jW a++jW b
def sR(n:Int):(jW n).length=4:=by simp[jW,bytesOf]
def EZ(a b:Int):(fJ a b).length=9:=by simp[fJ,sR]
def Qi(a b:Int):Int:=au .i64 (bf av.bits a ||| bf av.bits b).toNat
def Qj(a:Int)(n:Nat):Int:=au .i64 (a*2^n)
def iP(s:aD):Int:=Qi (Qi (Qi ((dH s 0).toNat:Int) (Qj ((dH s 1).toNat:Int) 8)) (Qj ((dH s 2).toNat:Int) 16)) (Qj ((dH s 3).toNat:Int) 24)
def lH:List (D aC)->Int
 |[]=>0
 |e :: r=>if bC e≠0 then bC e else lH r
def fL(l:List (D aC)):aD:=l.flatMap fS
def dO(l:List (D aC)):aD×aM:=if lH l≠0 then([],aI (lH l))else(fL l,.nil)
def Ll:∀{l:List (D aC)} {i:Nat},(∀j,j<i->bC (nth aC l j)=0)->i<l.length->bC (nth aC l i)≠0->lH l=bC (nth aC l i)
 |[],i,_,h,_=>by simp at h
 |e :: r,0,_,_,h=>by unfold lH;rw[if_pos (show bC e≠0 from h)];rfl
 |e :: r,i+1,h,h1,h2=>by
  unfold lH;rw[if_neg (by have:=h 0 (by omega);exact not_not_intro this)];exact Ll (l:=r) (i:=i) (fun j hj=>h (j+1) (by omega)) (by simpa using h1) h2
def E0:∀{l:List (D aC)},(∀j,j<l.length->bC (nth aC l j)=0)->lH l=0
 |[],_=>rfl
 |e :: r,h=>by
  unfold lH;rw[if_neg (by have:=h 0 (by simp);exact not_not_intro this)];exact E0 (l:=r) fun j hj=>h (j+1) (by simp;omega)
def Ii:∀{l:List (D aC)},lH l=0->∀e∈l,bC e=0
 |[],_,_,h=>by simp at h
 |e :: r,hb,x,hx=>by
  unfold lH at hb;split at hb
  ·rename_i h;exact absurd hb h
  ·rename_i h
   rcases b6.1 hx with rfl|hx
   ·exact bg.1 h
   ·exact Ii hb x hx
def Qk{l:List (D aC)}{i:Nat}(h:i<l.length):fL (l.take (i+1))=fL (l.take i)++fS (nth aC l i):=by
 unfold fL;rw[iG (t:=aC) h];simp
def Ql{e:D aC}(h:bC e=0):(fS e).length<=2753:=by
 have:=(lF h).AJ e.2.2.1.length;unfold fS rk;rw[ab];simp;omega
def AY:∀{l:List (D aC)},(∀e∈l,bC e=0)->(fL l).length<=2753*l.length
 |[],_=>by simp[fL]
 |e :: r,h=>by
  have h1:=Ql (h e (by simp));have h2:=AY (l:=r) fun x hx=>h x (by simp[hx])
  have h3:fL (e :: r)=fS e++fL r:=rfl;rw[h3,ab,ae];omega
def Qm{l:List (D aC)}{i:Nat}(hq:∀j,j<i->bC (nth aC l j)=0)(hi:i<l.length)(h:(dI (nth aC l i)).2.isNil=false):([],(dI (nth aC l i)).2)=dO l:=by
 have hf:bC (nth aC l i)≠0:=fun e=>by rw[Ib,e]at h;cases h
 unfold dO;rw[Ll hq hi hf,if_pos hf,Ib]
def Td{l:List (D aC)}{i:Nat}(hq:∀j,j<i->bC (nth aC l j)=0)(hi:¬i<l.length):(fL (l.take i),aM.nil)=dO l:=by
 unfold dO;rw[E0 fun j hj=>hq j (by omega),if_neg (by decide),List.take_of_length_le (by omega)]
def Qn{l:List (D aC)}{i:Nat}(h:i<l.length)(ht:(dI (nth aC l i)).2.isNil=true):fL (l.take (i+1))=fL (l.take i)++(dI (nth aC l i)).1:=by
 rw[Qk h,(vq ht).2]
def Qo{l:List (D aC)}{i:Nat}(hl:l.length<=100)(hi:i<l.length)(hq:∀j,j<i->bC (nth aC l j)=0):(fL (l.take i)).length<=275300:=by
 have h1:∀e∈l.take i,bC e=0:=fun e he=>by
  obtain⟨j,hj,rfl⟩:=gR (t:=aC) he;rw[ao]at hj;rw[AF (t:=aC) (by omega)];exact hq j (by omega)
 have h2:=AY h1;rw[ao]at h2;omega
def mn(bs:List Int):Dk->Int->List Nat->Dk×Int
 |d,_,[]=>(d,0)
 |d,s,i :: r=>if(bL d s (bytesOf (eG (t:=.int .u8) bs 64 i))).2=0 then mn bs (bL d s (bytesOf (eG (t:=.int .u8) bs 64 i))).1 (s+1) r else bL d s (bytesOf (eG (t:=.int .u8) bs 64 i))
def Ij(bs:List Int)(i:Nat):∀(pre:List Nat) (d:Dk) (s:Int),(mn bs d s pre).2=0->
  mn bs d s (pre++[i])=bL (mn bs d s pre).1 (s+pre.length) (bytesOf (eG (t:=.int .u8) bs 64 i))
 |[],d,s,_=>by
  simp only[b7,mn,b8];rw[show s+((0:Nat):Int)=s by omega];split
  ·rename_i h
   exact ai rfl h.symm
  ·rfl
 |j :: r,d,s,h=>by
  simp only[bh,mn]at h ⊢;split
  ·rename_i h1
   rw[if_pos h1]at h;rw[Ij bs i r _ _ h,ae];congr 1;omega
  ·rename_i h1
   rw[if_neg h1]at h;exact absurd h h1
structure cZ (d:Dk) (m:Nat):Prop where
 l8 : -1<=(d.1.1:Int)
 mJ:d.2.2.2.1.length<=m
 len:d.2.1.length=d.2.2.1.length
def cZ.mono{d:Dk}{m m':Nat}(h:cZ d m)(hm:m<=m'):cZ d m':=⟨h.l8,aq h.mJ hm,h.len⟩
def sU{d:Dk}{m:Nat}(h:cZ d m):cZ (stepOf d).1 m:=by
 unfold stepOf;split
 ·exact h
 ·split
  ·exact⟨aw _,h.mJ,h.len⟩
  ·refine⟨?_,h.mJ,h.len⟩
   have:=h.l8;show -1<=(if 0<d.1.1 then d.1.1-1 else d.1.1);split <;> omega
def l9{d:Dk}{m:Nat}(h:cZ d m)(a:Int)(s:aD):cZ (bL d a s).1 (m+1):=by
 unfold bL;split
 ·exact h.mono (by omega)
 ·split
  ·refine⟨(sU h).l8,?_,?_⟩
   ·show(d.2.2.2.1++[(a,eI s,())]).length<=m+1
    rw[ab];have:=h.mJ;simp;omega
   ·show d.2.1.length=(d.2.2.1.set a.toNat (eI s)).length
    rw[af];exact h.len
  ·exact(sU h).mono (by omega)
def rn{d:Dk}{m:Nat}(h:cZ d m):cZ (bP d).1 m:=by
 unfold bP;split
 ·exact⟨(sU h).l8,Nat.zero_le _,rfl⟩
 ·exact sU h
def Ik(bs:List Int):∀(pre:List Nat) {d:Dk} {s:Int} {m:Nat},cZ d m->cZ (mn bs d s pre).1 (m+pre.length)
 |[],_,_,_,h=>h
 |i :: r,d,s,m,h=>by
  simp only[mn];split
  ·exact(Ik bs r (l9 h _ _)).mono (by simp;omega)
  ·exact(l9 h _ _).mono (by simp)
def ik(l:List (D aC))(r:Int)(d:Dk)(pre:List Nat):Dk×Int:=mn (bI (dO l).1) d (2+(r+1).tmod 2*55) pre
def il(l:List (D aC)):List Nat:=ax (fN (bI (dO l).1).length 64)
def Cw(l:List (D aC))(r:Int)(d:Dk):Dk×Int:=bP (ik l r d (il l)).1
def vV(l:List (D aC))(r:Int)(d:Dk):Dk×Int:=bL (Cw l r d).1 ((r+1).tmod 2) (fJ (r+1) (dO l).1.length)
def eJ(d:Dk)(r:Int)(l:List (D aC)):Dk×Int:=
 if lH l≠0 then(d,lH l)
 else if(ik l r d (il l)).2≠0 then ik l r d (il l)
 else if(Cw l r d).2≠0 then Cw l r d
 else if(vV l r d).2≠0 then vV l r d
 else bP (vV l r d).1
def Ux{r:Int}(h:0<=r):0<=(r+1).tmod 2/\(r+1).tmod 2<=1:=by rw[ay (by omega)];omega
def E1{l:List (D aC)}(h:l.length<=100):(dO l).1.length<=275300:=by
 unfold dO;split
 ·simp
 ·rename_i hb
  have:=AY (Ii (bg.1 hb));show(fL l).length<=275300;omega
def qO{l:List (D aC)}(h:(dO l).2.isNil=true):(dO l).2=.nil/\lH l=0:=by
 unfold dO at h ⊢;split at h
 ·rename_i hb;exact absurd (aQ.1 h) hb
 ·rename_i hb;rw[if_neg hb];exact⟨rfl,bg.1 hb⟩
def Il{l:List (D aC)}{r:Int}{d:Dk}(h:cZ d 1000000)(pre:List Nat):cZ (ik l r d pre).1 (1000000+pre.length):=Ik _ pre h
def vw{l:List (D aC)}(h:l.length<=100):fN (bI (dO l).1).length 64<=5000:=by
 have:=E1 h;unfold fN;rw[bI,bj];omega
def Qp{l:List (D aC)}(d:Dk)(r:Int)(h:(dO l).2.isNil=false):eJ d r l=(d,lH l)/\lH l≠0/\(dO l).2=aI (lH l):=by
 have hb:lH l≠0:=fun e=>by unfold dO at h;rw[if_neg (not_not_intro e)]at h;cases h
 exact⟨by unfold eJ;rw[if_pos hb],hb,by unfold dO;rw[if_pos hb]⟩
def sb{l o:List (D aC)}{d:Dk}{r:Int}{z:Dk×Int}(hk:eJ d r l=z)(hz:z.2≠0) :
  (((r,o,()),z.1):(Int×List (D aC)×Unit)×Dk)=(if(eJ d r l).2=0 then(r+1,l,())else(r,o,()),(eJ d r l).1)/\(aI z.2,())=(aI (eJ d r l).2,()):=by
 rw[hk,if_neg hz];exact⟨rfl,rfl⟩
def Qq{l o:List (D aC)}{d:Dk}{r:Int}{z:Dk×Int}(hk:eJ d r l=z)(hz:z.2=0) :
  (((r+1,l,()),z.1):(Int×List (D aC)×Unit)×Dk)=(if(eJ d r l).2=0 then(r+1,l,())else(r,o,()),(eJ d r l).1)/\(aI z.2,())=(aI (eJ d r l).2,()):=by
 rw[hk,if_pos hz];exact⟨rfl,rfl⟩
def Im(bs:List Int)(i:Nat)(rest:List Nat):∀(pre:List Nat) (d:Dk) (s:Int),(mn bs d s pre).2=0->(bL (mn bs d s pre).1 (s+pre.length) (bytesOf (eG (t:=.int .u8) bs 64 i))).2≠0->
  mn bs d s (pre++i :: rest)=bL (mn bs d s pre).1 (s+pre.length) (bytesOf (eG (t:=.int .u8) bs 64 i))
 |[],d,s,_,h=>by
  simp only[b7,mn,b8]at h ⊢;rw[show s+((0:Nat):Int)=s by omega]at h ⊢;rw[if_neg h]
 |j :: r,d,s,h,h2=>by
  simp only[bh,mn]at h h2 ⊢;by_cases h1:(bL d s (bytesOf (eG (t:=.int .u8) bs 64 j))).2=0
  ·simp only[if_pos h1]at h h2 ⊢
   rw[ae,show s+((r.length+1:Nat):Int)=s+1+(r.length:Int) by omega]at h2 ⊢;exact Im bs i rest r _ _ h h2
  ·rw[if_neg h1]at h
   exact absurd h h1
def Te{i m:Nat}(h:i<m):∃rest,ax m=ax i++i :: rest:=by
 obtain⟨b,rfl⟩:∃b,m=i+(b+1):=⟨m-i-1,by omega⟩
 rw[List.range_add,List.range_succ_eq_map];exact⟨_,by simp only[az,Nat.add_zero];rfl⟩
def NA{l:List (D aC)}{d:Dk}{r:Int}{pre:List Nat}{i:Nat}(h0:(dO l).2.isNil=true)(hp:(ik l r d pre).2=0)(e:pre=ax i)(hi:pre.length<fN (bI (dO l).1).length 64)
  (hw:(bL (ik l r d pre).1 (2+(r+1).tmod 2*55+(pre.length:Int)) (bytesOf (eG (t:=.int .u8) (bI (dO l).1) 64 i))).2≠0) :
  eJ d r l=bL (ik l r d pre).1 (2+(r+1).tmod 2*55+(pre.length:Int)) (bytesOf (eG (t:=.int .u8) (bI (dO l).1) 64 i)):=by
 have hil:i<fN (bI (dO l).1).length 64:=by rw[e,bk]at hi;exact hi
 obtain⟨rest,hr⟩:=Te hil;have hall:ik l r d (il l)=bL (ik l r d pre).1 (2+(r+1).tmod 2*55+(pre.length:Int)) (bytesOf (eG (t:=.int .u8) (bI (dO l).1) 64 i)):=by
  unfold ik il;rw[hr,<-e];exact Im _ i rest pre d _ hp hw
 unfold eJ;rw[if_neg (not_not_intro (qO h0).2),hall,if_pos hw]
def Io{l:List (D aC)}{d:Dk}{r:Int}{pre:List Nat}(i:Nat)(hp:(ik l r d pre).2=0) :
  ik l r d (pre++[i])=bL (ik l r d pre).1 (2+(r+1).tmod 2*55+(pre.length:Int)) (bytesOf (eG (t:=.int .u8) (bI (dO l).1) 64 i)):=Ij _ i pre d _ hp
def Ve{l:List (D aC)}{d:Dk}{r:Int}(h0:(dO l).2.isNil=true)(hp:(ik l r d (il l)).2=0)(hf:(Cw l r d).2≠0):eJ d r l=Cw l r d:=by
 unfold eJ;rw[if_neg (not_not_intro (qO h0).2),if_neg (not_not_intro hp),if_pos hf]
def Vf{l:List (D aC)}{d:Dk}{r:Int}(h0:(dO l).2.isNil=true)(hp:(ik l r d (il l)).2=0)(hf:(Cw l r d).2=0)(hh:(vV l r d).2≠0):eJ d r l=vV l r d:=by
 unfold eJ;rw[if_neg (not_not_intro (qO h0).2),if_neg (not_not_intro hp),if_neg (not_not_intro hf),if_pos hh]
def E2{l:List (D aC)}{d:Dk}{r:Int}(h0:(dO l).2.isNil=true)(hp:(ik l r d (il l)).2=0)(hf:(Cw l r d).2=0)(hh:(vV l r d).2=0):eJ d r l=bP (vV l r d).1:=by
 unfold eJ;rw[if_neg (not_not_intro (qO h0).2),if_neg (not_not_intro hp),if_neg (not_not_intro hf),if_neg (not_not_intro hh)]
def AZ{l:List (D aC)}{r:Int}{d:Dk}(hl:l.length<=100)(h:cZ d 1000000):cZ (ik l r d (il l)).1 1005000:=
 (Il h (il l)).mono (by have:=vw hl;unfold il;rw[bk];omega)
abbrev Sh:=(Int×List (D aC)×Unit)×Dk
def qu(x:Sh)(l:List (D aC)):Sh×Int:=((if(eJ x.2 x.1.1 l).2=0 then(x.1.1+1,l,())else x.1,(eJ x.2 x.1.1 l).1),(eJ x.2 x.1.1 l).2)
def qv(l:List (D aC))(e:D aC):Option (List (D aC)):=if 0<=eB l e.1 then some (l.set (eB l e.1).toNat e)else if l.length=3 then none else some (l++[e])
def kv(x:Sh)(e:D aC):Sh×Int:=
 if bC e≠0 then(x,bC e)else match qv x.1.2.1 e with
  |none=>(x,2)
  |some l=>qu x l
def fK(l:List (D aC))(s:aD):D aC×Bool:=if 0<=eB l s then(nth aC l (eB l s).toNat,true)else(bY aC,false)
def gL(x:Sh)(s:aD):Sh×Int:=
 if 0<=eB x.1.2.1 s then qu x (x.1.2.1.eraseIdx (eB x.1.2.1 s).toNat)else(x,5)
def p9(l:List (D aC))(s:aD):eB l s<l.length/\-1<=eB l s:=by
 unfold eB;split
 ·rename_i i h
  obtain⟨h1,_⟩:=List.findIdx?_eq_some_iff_getElem.1 h;omega
 ·omega
def E3{x:Sh}{e:D aC}(h:bC e≠0):kv x e=(x,bC e):=by unfold kv;rw[if_pos h]
def Lm{x:Sh}{e:D aC}(h:bC e=0)(hi:0<=eB x.1.2.1 e.1):kv x e=qu x (x.1.2.1.set (eB x.1.2.1 e.1).toNat e):=by
 unfold kv qv;rw[if_neg (not_not_intro h),if_pos hi]
def Ip{x:Sh}{e:D aC}(h:bC e=0)(hi:¬0<=eB x.1.2.1 e.1)(hl:(x.1.2.1.length:Int)=3):kv x e=(x,2):=by
 unfold kv qv;rw[if_neg (not_not_intro h),if_neg hi,if_pos (by omega)]
def Dw{x:Sh}{e:D aC}(h:bC e=0)(hi:¬0<=eB x.1.2.1 e.1)(hl:¬(x.1.2.1.length:Int)=3):kv x e=qu x (x.1.2.1++[e]):=by
 unfold kv qv;rw[if_neg (not_not_intro h),if_neg hi,if_neg (by omega)]
def xI{α:Type}{o:List α}{b:Bool}(q:0<o.length->b=false)(h:b=true):o=[]:=by
 cases o with
 |nil=>rfl
 |cons a t=>rw[q (by simp)]at h;cases h
def Ln{l:List (D aC)}{s:aD}(h:0<=eB l s):fK l s=(nth aC l (eB l s).toNat,true):=by unfold fK;rw[if_pos h]
def Iq{l:List (D aC)}{s:aD}(h:¬0<=eB l s):fK l s=(bY aC,false):=by unfold fK;rw[if_neg h]
def o3(s:aD):¬0<=eB [] s:=fun h=>absurd (show(0:Int)<=-1 from h) (by decide)
def oS(l:List (D aC))(e:D aC):List (D aC)×Int:=if bC e > 0 then(l,bC e)else match qv l e with
 |none=>(l,2)
 |some l'=>(l',0)
def vy(l:List (D aC))(s:aD):List (D aC):=l.filter fun e=>decide (e.1≠s)
def nO(l:List (D aC))(s:aD):List (D aC)×Int:=if(vy l s).length=l.length then(l,5)else(vy l s,0)
def NB{l:List (D aC)}{e:D aC}(h:bC e > 0):oS l e=(l,bC e):=by unfold oS;rw[if_pos h]
def Tf{l:List (D aC)}{e:D aC}{i:Nat}(h:¬bC e > 0)(hi:i<l.length)(hq:∀j,j<i->(nth aC l j).1≠e.1)(he:(nth aC l i).1=e.1):oS l e=(l.set i e,0):=by
 have hf:=AX hi hq he;unfold oS qv;rw[if_neg h,if_pos (by rw[hf];omega),hf];rfl
def Qr{l:List (D aC)}{e:D aC}(h:¬bC e > 0)(hq:∀j,j<l.length->(nth aC l j).1≠e.1)(hl:(l.length:Int)=3):oS l e=(l,2):=by
 unfold oS qv;rw[if_neg h,if_neg (by rw[rm hq];decide),if_pos (by omega)]
def Tg{l:List (D aC)}{e:D aC}(h:¬bC e > 0)(hq:∀j,j<l.length->(nth aC l j).1≠e.1)(hl:¬(l.length:Int)=3):oS l e=(l++[e],0):=by
 unfold oS qv;rw[if_neg h,if_neg (by rw[rm hq];decide),if_neg (by omega)]
def dM(c:UInt8)(s:aD):List aD:=ag [c] 1 (bm s [c]) s
def E4(sep:aD)(save:Nat):∀(k:Nat) (s:aD),∀y∈ag sep save k s,y.length<=s.length
 |0,s,y,h=>by simp[ag]at h;subst h;exact a7 _
 |k+1,s,y,h=>by
  unfold ag at h;split at h
  ·simp at h;subst h;exact a7 _
  ·rcases b6.1 h with rfl|h
   ·rw[ao];exact Nat.min_le_right _ _
   ·exact aq (E4 sep save k _ y h) (by rw[b9];omega)
def E5(c:UInt8)(s y:aD)(h:y∈dM c s):y.length<=s.length:=E4 _ _ _ _ _ h
def gF(d:Dk):Dk×Int:=
 if(d.2.2.1.length:Int)<112 then(d,8)
 else if(bL d 1 []).2≠0 then bL d 1 []
 else if(bP (bL d 1 []).1).2≠0 then bP (bL d 1 []).1
 else if(bL (bP (bL d 1 []).1).1 0 (fJ 2 0)).2≠0 then bL (bP (bL d 1 []).1).1 0 (fJ 2 0)
 else bP (bL (bP (bL d 1 []).1).1 0 (fJ 2 0)).1
def Vh{d:Dk}(h:(d.2.2.1.length:Int)<112):gF d=(d,8):=by unfold gF;rw[if_pos h]
def W5{d:Dk}(h:¬(d.2.2.1.length:Int)<112)(h1:(bL d 1 []).2≠0):gF d=bL d 1 []:=by unfold gF;rw[if_neg h,if_pos h1]
def W6{d:Dk}(h:¬(d.2.2.1.length:Int)<112)(h1:(bL d 1 []).2=0)(h2:(bP (bL d 1 []).1).2≠0):gF d=bP (bL d 1 []).1:=by
 unfold gF;rw[if_neg h,if_neg (not_not_intro h1),if_pos h2]
def W7{d:Dk}(h:¬(d.2.2.1.length:Int)<112)(h1:(bL d 1 []).2=0)(h2:(bP (bL d 1 []).1).2=0)(h3:(bL (bP (bL d 1 []).1).1 0 (fJ 2 0)).2≠0):gF d=bL (bP (bL d 1 []).1).1 0 (fJ 2 0):=by
 unfold gF;rw[if_neg h,if_neg (not_not_intro h1),if_neg (not_not_intro h2),if_pos h3]
def W8{d:Dk}(h:¬(d.2.2.1.length:Int)<112)(h1:(bL d 1 []).2=0)(h2:(bP (bL d 1 []).1).2=0)(h3:(bL (bP (bL d 1 []).1).1 0 (fJ 2 0)).2=0):gF d=bP (bL (bP (bL d 1 []).1).1 0 (fJ 2 0)).1:=by
 unfold gF;rw[if_neg h,if_neg (not_not_intro h1),if_neg (not_not_intro h2),if_neg (not_not_intro h3)]
def rC{a b:Nat}(ha:a<2^40)(hb:b<2^40):Qi (a:Int) (b:Int)=((a ||| b:Nat):Int):=by
 have hlt:a ||| b<2^40:=a8 ha hb
 have e:∀n:Nat,bf av.bits (n:Int)=BitVec.ofNat av.bits n:=fun n=>BitVec.ofInt_natCast _ n
 unfold Qi;rw[e,e,<-BitVec.ofNat_or,BitVec.toNat_ofNat,Nat.mod_eq_of_lt (ak hlt (by decide))];exact lB (by omega) (by omega)
def rD{a k:Nat}(ha:a<2^8)(hk:k<=24):Qj (a:Int) k=((a*2^k:Nat):Int):=by
 unfold Qj;have h1:2^k<=2^24:=Nat.pow_le_pow_right (by decide) hk;have h2:a*2^k<=255*2^24:=Nat.mul_le_mul (by omega) h1;rw[show((a:Nat):Int)*(2:Int)^k=((a*2^k:Nat):Int) by simp];exact lB (by omega) (by omega)
def zZ(s:aD):∃n:Nat,iP s=(n:Int)/\n<2^32:=by
 have hb:∀i,(dH s i).toNat<2^8:=fun i=>(dH s i).toNat_lt
 have h1:(dH s 1).toNat*2^8<2^32:=ak (bo (hb 1) (by decide)) (by decide);have h2:(dH s 2).toNat*2^16<2^32:=ak (bo (hb 2) (by decide)) (by decide);have h3:(dH s 3).toNat*2^24<2^32:=ak (bo (hb 3) (by decide)) (by decide);have h0:(dH s 0).toNat<2^32:=ak (hb 0) (by decide);have w:∀{n:Nat},n<2^32->n<2^40:=fun h=>ak h (by decide)
 unfold iP;rw[rD (hb 1) (by decide),rD (hb 2) (by decide),rD (hb 3) (by decide),rC (w h0) (w h1)];have a1:=a8 h0 h1;rw[rC (w a1) (w h2)];have a2:=a8 a1 h2;rw[rC (w a2) (w h3)];exact⟨_,rfl,a8 a2 h3⟩
def xJ(d:Dk)(i:Int):aD:=nth .str d.2.2.1 (Int.toNat i)
def pN(d:Dk)(i:Nat):Int:=iP (ah 1 (ad 5 (xJ d i)))
def qN(d:Dk)(i:Nat):Int:=iP (ah 5 (ad 9 (xJ d i)))
def eH(d:Dk):Nat->Int×Int
 |0=>(0,0)
 |i+1=>if((dH (xJ d i) 0).toNat:Int)=83/\(eH d i).1<pN d i/\qN d i<=3520 then(pN d i,qN d i)else eH d i
def jo(d:Dk)(b:Int):Nat->aD
 |0=>[]
 |i+1=>jo d b i++xJ d (b+(i:Int))
def kj(L:List aD):List (D aC):=(L.filter fun s=>decide (s≠[])).map fun s=>(gW s).1
def Ir(L:List aD):Prop:=∃j,j<L.length/\nth .str L j≠[]/\(gW (nth .str L j)).2.isNil=false
def kT(d:Dk):Int:=2+(eH d 2).1.tmod 2*55
def dK(d:Dk):List aD:=dM 10 (ad (eH d 2).2.toNat (jo d (kT d) 55))
open Classical in
def dP(d:Dk):(Int×List (D aC))×Int:=
 if d.1.2.1=true then((0,[]),9)else if(d.2.2.1.length:Int)<112 then((0,[]),4)else if(eH d 2).1=0 then((0,[]),4)
 else if Ir (dK d)then((0,[]),4)else(((eH d 2).1,kj (dK d)),0)
def Cy(d:Dk):eH d 0=(0,0):=rfl
def Uy(d:Dk)(i:Nat):eH d (i+1)=if((dH (xJ d i) 0).toNat:Int)=83/\(eH d i).1<pN d i/\qN d i<=3520 then(pN d i,qN d i)else eH d i:=rfl
def Uz(d:Dk)(b:Int):jo d b 0=[]:=rfl
def NC(d:Dk)(b:Int)(i:Nat):jo d b (i+1)=jo d b i++xJ d (b+(i:Int)):=rfl
def qa(d:Dk)(i:Nat):pN d i=iP (ah 1 (ad 5 (nth .str d.2.2.1 i))):=rfl
def rE(d:Dk)(i:Nat):qN d i=iP (ah 5 (ad 9 (nth .str d.2.2.1 i))):=rfl
def kC(d:Dk):kT d=2+(eH d 2).1.tmod 2*55:=rfl
def gO(d:Dk):dK d=dM 10 (ad (eH d 2).2.toNat (jo d (kT d) 55)):=rfl
def uj{d:Dk}{i:Nat}(h1:((dH (nth .str d.2.2.1 i) 0).toNat:Int)=83)(h2:(eH d i).1<pN d i)(h3:qN d i<=3520):eH d (i+1)=(pN d i,qN d i):=by rw[Uy];exact if_pos ⟨h1,h2,h3⟩
def yB{d:Dk}{i:Nat}(h:¬(((dH (nth .str d.2.2.1 i) 0).toNat:Int)=83/\(eH d i).1<pN d i/\qN d i<=3520)):eH d (i+1)=eH d i:=by rw[Uy];exact if_neg h
def gM(d:Dk):∀i,(0<=(eH d i).1/\(eH d i).1<4294967296)/\0<=(eH d i).2/\(eH d i).2<=3520
 |0=>by rw[Cy];decide
 |i+1=>by
  by_cases h:((dH (nth .str d.2.2.1 i) 0).toNat:Int)=83/\(eH d i).1<pN d i/\qN d i<=3520
  ·rw[uj h.1 h.2.1 h.2.2]
   obtain⟨n,e,hn⟩:=zZ (ah 1 (ad 5 (nth .str d.2.2.1 i)));obtain⟨m,e2,hm⟩:=zZ (ah 5 (ad 9 (nth .str d.2.2.1 i)));have h3:=h.2.2;rw[qa,rE,e,e2];rw[rE,e2]at h3;refine⟨⟨by omega,?_⟩,by omega,h3⟩;have:(n:Int)<((2^32:Nat):Int):=Int.ofNat_lt.2 hn;simpa using this
  ·rw[yB h];exact gM d i
def sV{a:Int}(h:0<=a):0<=a.tmod 2/\a.tmod 2<=1:=by rw[ay h];omega
def kD{d:Dk}(hs:∀i,i<d.2.2.1.length->(nth .str d.2.2.1 i).length=64){b:Int}(hb:0<=b):∀n:Nat,b+(n:Int)<=d.2.2.1.length->(jo d b n).length=64*n
 |0,_=>by rw[Uz];rfl
 |n+1,h=>by
  rw[NC,ab,kD hs hb n (by omega),show(xJ d (b+(n:Int))).length=64 from hs _ (by omega)];omega
def Qs{d:Dk}(h:d.1.2.1=true):dP d=((0,[]),9):=by unfold dP;rw[if_pos h]
def Th{d:Dk}(h1:d.1.2.1=false)(h:(d.2.2.1.length:Int)<112):dP d=((0,[]),4):=by unfold dP;rw[if_neg (by rw[h1];decide),if_pos h]
def Qt{d:Dk}(h1:d.1.2.1=false)(h:¬(d.2.2.1.length:Int)<112)(h5:(eH d 2).1=0):dP d=((0,[]),4):=by unfold dP;rw[if_neg (by rw[h1];decide),if_neg h,if_pos h5]
def Ti{d:Dk}(h1:d.1.2.1=false)(h:¬(d.2.2.1.length:Int)<112)(h5:¬(eH d 2).1=0)(hb:Ir (dK d)):dP d=((0,[]),4):=by unfold dP;rw[if_neg (by rw[h1];decide),if_neg h,if_neg h5,if_pos hb]
def Lo{d:Dk}(h1:d.1.2.1=false)(h:¬(d.2.2.1.length:Int)<112)(h5:¬(eH d 2).1=0)(hb:¬Ir (dK d)):dP d=(((eH d 2).1,kj (dK d)),0):=by unfold dP;rw[if_neg (by rw[h1];decide),if_neg h,if_neg h5,if_neg hb]
def Qu{L:List aD}{i:Nat}(h:i<L.length)(he:nth .str L i=[]):kj (L.take (i+1))=kj (L.take i):=by
 unfold kj;rw[iG (t:=.str) h,bp,he];simp
def Qv{L:List aD}{i:Nat}(h:i<L.length)(he:nth .str L i≠[]):kj (L.take (i+1))=kj (L.take i)++[(gW (nth .str L i)).1]:=by
 unfold kj;rw[iG (t:=.str) h,bp];simp[he]
def Tj(L:List aD):(kj L).length<=L.length:=by unfold kj;rw[bj];exact List.length_filter_le _ _
def Vi{L:List aD}{i:Nat}(hi:¬i<L.length)(h:∀j,j<i->nth .str L j=[]\/(gW (nth .str L j)).2.isNil=true):¬Ir L:=by
 rintro⟨j,h1,h2,h3⟩;rcases h j (by omega)with h|h
 ·exact h2 h
 ·rw[h]at h3;cases h3
def Cz(sep:aD)(save:Nat):∀(k:Nat) (s:aD),(ag sep save k s).length<=k+1
 |0,s=>by simp[ag]
 |k+1,s=>by
  unfold ag;split
  ·simp
  ·rw[ae];have:=Cz sep save k (s.drop ((bq s sep).toNat+sep.length));omega
def ND(c:UInt8)(s:aD):(dM c s).length<=s.length+1:=by
 unfold dM;refine aq (Cz _ _ _ _) ?_;rw[ba];have:=List.count_le_length (a:=c) (l:=s);omega
def Qw:kj []=[]:=rfl
def iR(d:Dk):Dk×Int:=Classical.choose (⟨gF d,rfl⟩:∃y,y=gF d)
def ma(d:Dk):iR d=gF d:=Classical.choose_spec (⟨gF d,rfl⟩:∃y,y=gF d)
attribute [irreducible] eH jo kj kT dK pN qN
end Go.Mrl

namespace Go.Vg
open Go.RowKit
def Dx(t:Ty):aT:=fun args st K=>
 match args with
 |[.one (.aV n),.one a,.one b]=>match look st.aF n,sj (.int .i64) a,sj (.int .i64) b with
  |some (.aV t' xs),some i,some j=>match Ty.beq t' t with
   |true =>.and (0<=(i:Int)/\(i:Int)<(j:Int)/\(j:Int)<=xs.length)
     (K (.s (.one (.aV st.next))) (fresh (bA (bA st n) n) (.aV t' (xs.take (i:Int).toNat++xs.drop (j:Int).toNat))))
   |false =>.ff
  |_,_,_ =>.ff
 |_ =>.ff
def Qx(P:Program)(f:FuncId)(sz:Nat):Prop:=∀(b i j n cap:Nat) (vs:Array Value) (T:TypeId) (w:World),w.heap[b]?=some (.cells vs T (0,0))->vs.size=cap*sz->i<j->j<=n->n<=cap->n<=aK->
 (∀(k:Nat) u,k<n*sz->vs[k]?=some u->u.oneCell'=true)->
 Calls P f #[.slice (some ⟨b,0,none⟩) n cap,.int .i64 (i:Int),.int .i64 (j:Int)] w fun e w'=>e=.returned (.slice (some ⟨b,0,none⟩) (i+(n-j)) cap)/\w'.os=w.os/\w'.output=w.output/\w'.heap.size=w.heap.size/\(∀k,k≠b->w'.heap[k]?=w.heap[k]?)/\
  ∃vs':Array Value,w'.heap[b]?=some (.cells vs' T (0,0))/\vs'.size=vs.size/\∀k,k<(i+(n-j))*sz->vs'[k]?=vs[if k<i*sz then k else k+(j-i)*sz]?
def Tk{i j:Int}{n:Nat}(h0:0<=i)(hij:i<j)(hj:j<=n):∃i' j':Nat,i=(i':Int)/\j=(j':Int)/\i'<j'/\j'<=n:=
 ⟨i.toNat,j.toNat,by omega,by omega,by omega,by omega⟩
section
variable{P:Program}{X:Ext}{f:FuncId}
def NF{B:Cx}{t:Ty}(hfn:∃fn,P.funcs[f]?=some fn/\fn.body.isNone=false/\(fn.name == "runtime.NumGoroutine")=false)(H:Qx P f t.size) :
  bZ P B.eT X f false (Dx t):=by
 refine⟨hfn,fun O st loc w args vs K hs g hO ha =>?_⟩;unfold Dx at hs;split at hs
 case h_2=>exact hs.elim
 rename_i n ca cb;split at hs
 case h_2=>exact hs.elim
 rename_i t' xs i j hob hi hj;split at hs
 case h_2=>exact hs.elim
 rename_i ht;have ht':=Ty.eq_of_beq ht;subst ht';obtain⟨⟨h0,hij,hjx⟩,hs⟩:=hs
 match vs,ha with
 |[v0,v1,v2],.cons a0 (.cons a1 (.cons a2 .nil))=>
 have key:=Tk h0 hij hjx;clear h0 hij hjx;obtain⟨i,j,rfl,rfl,hij,hjx⟩:=key;have hs:(K (.s (.one (.aV st.next))) (fresh (bA (bA st n) n) (.aV t' (xs.take i++xs.drop j)))).holds:=hs;have e1:v1=.int .i64 (i:Int):=(cO.1 (pQ hi a1)).1;have e2:v2=.int .i64 (j:Int):=(cO.1 (pQ hj a2)).1;subst e1 e2;have hvl:=a0.2 _ _ hob;rcases(g.obj n _ hob).2 with⟨rfl,_⟩|⟨b,cs,T,cap,hl1,hU,hheap,hsz,hfit,hbig,he⟩
 ·simp at hjx;omega
 have hv0:=hvl.trans hl1;subst hv0;have hxs:List.length xs*t'.size<=cs.size:=by rw[hsz];exact bb _ hfit
 obtain⟨olds,ho,ho1,ho3,ho4⟩:=qg (cx:=B) he hxs;refine(H b i j xs.length cap cs T w hheap hsz hij hjx hfit hbig (fun k u hk hu=>ho4 u ?_)).mono ?_
 ·refine List.mem_of_getElem? (i:=k) ?_
  rw[ho,List.getElem?_take,if_pos hk,Array.getElem?_toList];exact hu
 rintro r w' ⟨rfl,k1,k2,k3,k4,cs',k5,k6,k7⟩;have hl':(xs.take i++xs.drop j).length=i+(xs.length-j):=by rw[ab,ao,b9];omega
 obtain⟨tr,gd⟩:=rb (w':=w') (oc:=.aV t' (xs.take i++xs.drop j)) (l:=⟨.slice (some ⟨b,0,none⟩) (i+(xs.length-j)) cap,[b]⟩) g hO n n k1 k2 (Nat.le_of_eq k3.symm)
  (fun k oc' hk hl=>by
   have:k=n:=by rcases hk with h|h <;> exact h
   subst this;rw[hob]at hl;cases hl;rfl)
  (fun b' hlt hb=>k4 b' fun e'=>hb n _ (.inl rfl) hob (by rw[e',show(loc n).bs=_ from hU];simp))
  (fun b' hbm=>by
   simp at hbm;subst hbm;exact .inl ⟨n,_,.inl rfl,hob,by rw[show(loc n).bs=_ from hU];simp⟩)
 have gd:=gd (.inr ⟨b,cs',T,cap,by rw[hl'],rfl,k5,by rw[k6,hsz],by rw[hl'];omega,by rw[hl'];unfold aK at*;omega,fun k y hy=>by
  have hk:k<i+(xs.length-j):=by have:=bF hy;rw[hl']at this;exact this
  obtain⟨k',hk',hyx⟩:∃k',(k'=if k<i then k else k+(j-i))/\xs[k']?=some y:=by
   refine⟨_,rfl,?_⟩;rw[List.getElem?_append,ao]at hy;by_cases h:k<i
   ·rw[if_pos (by omega),List.getElem?_take,if_pos h]at hy
    rw[if_pos h];exact hy
   ·rw[if_neg (by omega),List.getElem?_drop]at hy
    rw[if_neg h];rw[show j+(k-min i xs.length)=k+(j-i) by omega]at hy;exact hy
  obtain⟨us,r1,r2⟩:=he k' y hyx;refine⟨us,r1.frame tr.cell,fun q u hq =>?_⟩;have hql:q<t'.size:=by have:=bF hq;rw[r1.length]at this;exact this
  have hm:(k+1)*t'.size<=(i+(xs.length-j))*t'.size:=bb _ hk;rw[br,Nat.one_mul]at hm;rw[k7 _ (by omega)];have:=r2 q u hq;by_cases h:k<i
  ·rw[if_pos h]at hk'
   subst hk';have hm2:(k'+1)*t'.size<=i*t'.size:=bb _ h;rw[br,Nat.one_mul]at hm2;rw[if_pos (by omega)];exact this
  ·rw[if_neg h]at hk'
   have hm2:i*t'.size<=k*t'.size:=bb _ (by omega);rw[if_neg (by omega)];rw[hk',br]at this;rw[show k*t'.size+q+(j-i)*t'.size=k*t'.size+(j-i)*t'.size+q by omega];exact this⟩)
 exact⟨_,_,_,_,rfl,hs,rfl,(fun hq=>by cases hq),gd,tr,⟨by simp[aB,fresh,bA],fun t xs hy=>by simp[aB,bU]⟩⟩
end
end Go.Vg

namespace Go.Mrl
open Go.Vg
def np{n:Int}{k:Nat}(h0:0<=n)(h:n<((10^(k+1):Nat):Int)):(Lib.itoa n).length<=k+1:=by
 unfold Lib.itoa;rw[if_neg (by omega)];exact oE k n.toNat (by omega)
def Qy{n:Int}(h:ij (-2147483648) 2147483647 n):(Lib.itoa n).length<=11:=by
 have h1:=h.1;have h2:=h.2;by_cases hn:n<0
 ·rw[Pu hn,ab,bt]
  have:=np (n:=-n) (k:=9) (by omega) (by omega);omega
 ·have:=np (n:=n) (k:=9) (by omega) (by omega);omega
def Dy{α:Type}{f:α->aD}{m:Nat}:∀{l:List α},(∀x∈l,(f x).length<=m)->(l.flatMap f).length<=m*l.length
 |[],_=>by simp
 |a :: r,h=>by
  have h1:=h a (by simp);have h2:=Dy (l:=r) fun x hx=>h x (by simp[hx])
  rw[List.flatMap_cons,ab,ae,Nat.mul_add,Nat.mul_one];omega
def Is{p:D aG}(h1:Nm p.1)(h2:ij 1 1000000 p.2.1)(h3:ij 0 255 p.2.2.1):(ni p).length<=21:=by
 have a:=h1.2.1;have b:=np (n:=p.2.1) (k:=6) (by have:=h2.1;omega) (by have:=h2.2;omega);have c:=np (n:=p.2.2.1) (k:=2) (by have:=h3.1;omega) (by have:=h3.2;omega);simp[ni];omega
def It{p:D aS}(h1:ij 0 5 p.1)(h2:ij 0 39 p.2.1)(h3:ij (-2147483648) 2147483647 p.2.2.1):(nj p).length<=17:=by
 have a:=np (n:=p.1) (k:=0) (by have:=h1.1;omega) (by have:=h1.2;omega);have b:=np (n:=p.2.1) (k:=1) (by have:=h2.1;omega) (by have:=h2.2;omega);have c:=Qy h3;simp[nj];omega
def Ka{e:D aC}(hf:bC e=0):(fS e).length<=752:=by
 have h:=lF hf;have a1:=h.nm.2.1;have a2:=np (n:=(e.2.1.length:Int)) (k:=0) (by omega) (by have:=h.p6;omega);have a3:=np (n:=(e.2.2.1.length:Int)) (k:=1) (by omega) (by have:=h.Cm;omega);have hh:(vm e).length<=13:=by simp[vm];omega
 have b:=Dy (f:=ni) (m:=21) (l:=e.2.1) fun x hx=>by
  obtain⟨j,hj,rfl⟩:=gR (t:=aG) hx;obtain⟨k1,k2,k3⟩:=h.parts j hj;exact Is k1 k2 k3
 have c:=Dy (f:=nj) (m:=17) (l:=e.2.2.1) fun x hx=>by
  obtain⟨j,hj,rfl⟩:=gR (t:=aS) hx;obtain⟨k1,k2,k3⟩:=h.HW j hj;exact It k1 k2 k3
 have d1:=h.p6;have d2:=h.Cm;unfold fS rk jv jJ;rw[cc,cc,ab,ab,ab,bt];omega
def vz:∀{l:List (D aC)},(∀e∈l,bC e=0)->(fL l).length<=752*l.length
 |[],_=>by simp[fL]
 |e :: r,h=>by
  have h1:=Ka (h e (by simp));have h2:=vz (l:=r) fun x hx=>h x (by simp[hx])
  have h3:fL (e :: r)=fS e++fL r:=rfl;rw[h3,ab,ae];omega
def E6{c:UInt8}:∀{l r:aD},c∉l->bq (l++c :: r) [c]=(l.length:Int)
 |[],r,_=>xl
 |b :: l,r,h=>by
  have hb:b≠c:=fun e=>h (by rw[e];simp)
  rw[bh,xk hb,E6 (l:=l) (r:=r) fun k=>h (List.mem_cons_of_mem _ k),ae];rw[if_neg (by simp)];omega
def Kb{c:UInt8}{l r:aD}(h:c∉l):dM c (l++[c]++r)=(l++[c]) :: dM c r:=by
 have hc:bm (l++[c]++r) [c]=bm r [c]+1:=by
  rw[ba,ba,cd,List.count_append,List.count_eq_zero_of_not_mem h];simp
 have hi:bq (l++[c]++r) [c]=(l.length:Int):=by rw[cd];exact E6 h
 unfold dM;rw[hc,ag,hi,if_neg (by simp)];have e1:((l.length:Int)).toNat+1=(l++[c]).length:=by simp
 have e2:((l.length:Int)).toNat+ [c].length=(l++[c]).length:=by simp
 rw[e2,List.drop_left,e1,List.take_left]
def NG(c:UInt8):dM c []=[[]]:=by
 unfold dM;rw[ba];rfl
def CA:∀{l:List (D aC)},(∀e∈l,bC e=0)->dM 10 (fL l)=l.map fS++[[]]
 |[],_=>NG 10
 |e :: r,h=>by
  have h3:fL (e :: r)=rk e++[10]++fL r:=rfl;rw[h3,Kb (Nr (lF (h e (by simp)))),CA (l:=r) fun x hx=>h x (by simp[hx])];rfl
def Tl(e:D aC):fS e≠[]:=by unfold fS;simp
def CB{e:D aC}(h:bC e=0):gW (fS e)=(e,.nil):=by unfold gW;rw[Li h rfl];rfl
def Tm{l:List (D aC)}(h:∀e∈l,bC e=0):kj (l.map fS++[[]])=l:=by
 unfold kj;rw[bp,cf.2 fun s hs=>by
  obtain⟨e,_,rfl⟩:=al.1 hs;exact decide_eq_true (Tl e)]
 simp only[bu,List.filter_nil,ne_eq,not_true_eq_false,decide_false,Bool.false_eq_true,if_false,List.append_nil,List.map_map];have:l.map ((fun s=>(gW s).1) ∘ fS)=l.map id:=List.map_congr_left fun e he=>by simp only[Function.comp];rw[CB (h e he)];rfl
 rw[this,List.map_id]
def Tn{l:List (D aC)}(h:∀e∈l,bC e=0):¬Ir (l.map fS++[[]]):=by
 rintro⟨j,h1,h2,h3⟩;have hm:nth .str (l.map fS++[[]]) j∈l.map fS++[[]]:=dV (t:=.str) h1;rcases bw.1 hm with hm|hm
 ·obtain⟨e,he,k⟩:=al.1 hm
  rw[<-k,CB (h e he)]at h3;cases h3
 ·exact h2 (bc.1 hm)
def Qz(n:Int):vu n=n % 256:=by
 unfold vu;simp[au,IntKind.signed,IntKind.bits]
def sW{n:Nat}{m:Int}{k:Nat}(h:m=((n / 2^k:Nat):Int)):(UInt8.ofNat (Int.toNat (vu m))).toNat=n / 2^k % 256:=by
 rw[Qz,h,show((n / 2^k:Nat):Int) % 256=((n / 2^k % 256:Nat):Int) by omega,aj];simp[UInt8.toNat_ofNat']
def A0(n k:Nat):((n:Nat):Int).fdiv (2^k)=((n / 2^k:Nat):Int):=by
 rw[Int.fdiv_eq_ediv_of_nonneg _ (Int.le_of_lt (Int.pow_pos (by decide)))];simp
def Iu{a b k:Nat}(h:a<2^k):a ||| b*2^k=a+b*2^k:=by
 have:=Nat.two_pow_add_eq_or_of_lt h b;rw[Nat.mul_comm,Nat.or_comm];omega
def E7{n:Nat}(h:n<2^32):iP (jW (n:Int))=(n:Int):=by
 have b0:(dH (jW (n:Int)) 0).toNat=n / 2^0 % 256:=sW (n:=n) (k:=0) (by simp);have b1:(dH (jW (n:Int)) 1).toNat=n / 2^8 % 256:=sW (A0 n 8);have b2:(dH (jW (n:Int)) 2).toNat=n / 2^16 % 256:=sW (A0 n 16);have b3:(dH (jW (n:Int)) 3).toNat=n / 2^24 % 256:=sW (A0 n 24);have l:∀k,n / 2^k % 256<2^8:=fun k=>Nat.mod_lt _ (by decide)
 unfold iP;rw[b0,b1,b2,b3,rD (l 8) (by decide),rD (l 16) (by decide),rD (l 24) (by decide)];have l0:=l 0;have l1:=l 8;have l2:=l 16;have l3:=l 24;generalize hb0:n / 2^0 % 256=x0 at*;generalize hb1:n / 2^8 % 256=x1 at*;generalize hb2:n / 2^16 % 256=x2 at*;generalize hb3:n / 2^24 % 256=x3 at*;rw[rC (by omega) (by omega),Iu (k:=8) (by omega),rC (by omega) (by omega),Iu (k:=16) (by omega),rC (by omega) (by omega),Iu (k:=24) (by omega)];congr 1;omega
structure pK (d:Dk):Prop where
 down:d.1.2.1=false
 l8:(d.1.1:Int)= -1
 len:112<=d.2.2.1.length
 sec:∀i,i<d.2.2.1.length->(nth .str d.2.2.1 i).length=64
 To:d.2.1.length=d.2.2.1.length
def Iv{s:aD}(h:s.length<=64):(eI s).length=64:=by unfold eI;simp;omega
def xK{d:Dk}(g:pK d):stepOf d=(d,0):=by
 unfold stepOf;rw[if_neg (by rw[g.down];decide),if_neg (by rw[g.l8];decide)];have hf:=g.l8;have hd:=g.down;obtain⟨⟨f,dn,u⟩,rest⟩:=d;simp only at hf hd;subst hd;rw[if_neg (by show ¬0<f;omega)]
def rp{d:Dk}(g:pK d){a:Int}{s:aD}(h0:0<=a)(h1:a<d.2.2.1.length)(hs:s.length<=64) :
  (bL d a s).2=0/\(bL d a s).1.2.2.1=d.2.2.1.set a.toNat (eI s)/\pK (bL d a s).1:=by
 have e:bL d a s=((d.1,d.2.1,d.2.2.1.set a.toNat (eI s),d.2.2.2.1++[(a,eI s,())],()),0):=by
  unfold bL;rw[if_neg (by omega),xK g,if_pos rfl]
 rw[e];refine⟨rfl,rfl,g.down,g.l8,by rw[af];exact g.len,fun i hi =>?_,by rw[af];exact g.To⟩;show(nth .str (d.2.2.1.set a.toNat (eI s)) i).length=64;have hi:i<(d.2.2.1.set a.toNat (eI s)).length:=hi;rw[af]at hi;by_cases c:a.toNat=i
 ·subst c;rw[nH (t:=.str) hi];exact Iv hs
 ·rw[nG (t:=.str) c];exact g.sec i hi
def rq{d:Dk}(g:pK d):(bP d).2=0/\(bP d).1.2.2.1=d.2.2.1/\pK (bP d).1:=by
 have e:bP d=((d.1,d.2.2.1,d.2.2.1,[],()),0):=by
  unfold bP;rw[xK g,if_pos rfl]
 rw[e];exact⟨rfl,rfl,g.down,g.l8,g.len,g.sec,rfl⟩
def Iw(bs:List Int):∀(pre:List Nat) {d:Dk} {s:Int},pK d->0<=s->s+(pre.length:Int)<=d.2.2.1.length->
  (mn bs d s pre).2=0/\pK (mn bs d s pre).1/\(mn bs d s pre).1.2.2.1.length=d.2.2.1.length/\
  (∀j,j<pre.length->nth .str (mn bs d s pre).1.2.2.1 (s.toNat+j)=eI (bytesOf (eG (t:=.int .u8) bs 64 (pre.getD j 0))))/\
  (∀i,i<s.toNat\/s.toNat+pre.length<=i->nth .str (mn bs d s pre).1.2.2.1 i=nth .str d.2.2.1 i)
 |[],d,s,g,h0,h1=>⟨rfl,g,rfl,fun j hj=>absurd hj (cg _),fun i _=>rfl⟩
 |p :: r,d,s,g,h0,h1=>by
  have hc:(bytesOf (eG (t:=.int .u8) bs 64 p)).length<=64:=by rw[bytesOf,bj,rl];exact Nat.min_le_left _ _
  rw[ae]at h1;obtain⟨w1,w2,w3⟩:=rp g (a:=s) h0 (by omega) hc;have hl:(bL d s (bytesOf (eG (t:=.int .u8) bs 64 p))).1.2.2.1.length=d.2.2.1.length:=by rw[w2,af]
  obtain⟨k1,k2,k3,k4,k5⟩:=Iw bs r (s:=s+1) w3 (by omega) (by rw[hl];omega);have e:mn bs d s (p :: r)=mn bs (bL d s (bytesOf (eG (t:=.int .u8) bs 64 p))).1 (s+1) r:=by
   rw[mn,if_pos w1]
  rw[e];have hs1:(s+1).toNat=s.toNat+1:=by omega
  refine⟨k1,k2,k3.trans hl,fun j hj =>?_,fun i hi =>?_⟩
  ·cases j with
   |zero=>
    rw[Nat.add_zero,k5 s.toNat (.inl (by omega)),w2,nH (t:=.str) (by omega)];rfl
   |succ j=>
    have:=k4 j (by simpa using hj);rw[hs1]at this;rw[show s.toNat+(j+1)=s.toNat+1+j by omega,this];rfl
  ·rw[ae]at hi
   rw[k5 i (by omega),w2,nG (t:=.str) (by omega)]
def Lp{d:Dk}(hs:∀i,i<d.2.2.1.length->(nth .str d.2.2.1 i).length=64){b:Int}(hb:0<=b):∀(n:Nat),b+(n:Int)<=d.2.2.1.length->∀i,i<64*n->(jo d b n)[i]?=(nth .str d.2.2.1 (b.toNat+i / 64))[i % 64]?
 |0,_,i,hi=>by omega
 |n+1,h,i,hi=>by
  have hl:=kD hs hb n (by omega);rw[NC];by_cases c:i<64*n
  ·rw[List.getElem?_append_left (by rw[hl];exact c)]
   exact Lp hs hb n (by omega) i c
  ·rw[List.getElem?_append_right (by rw[hl];omega),hl]
   have e1:i / 64=n:=by omega
   have e2:i-64*n=i % 64:=by omega
   rw[e1,e2,show xJ d (b+(n:Int))=nth .str d.2.2.1 (b.toNat+n)from congrArg (nth .str d.2.2.1) (by omega)]
def QA(t:aD)(j r:Nat)(hr:r<64):(bytesOf (eG (t:=.int .u8) (bI t) 64 j))[r]?=t[j*64+r]?:=by
 have e:bytesOf (eG (t:=.int .u8) (bI t) 64 j)=(t.drop (j*64)).take 64:=by
  have h:∀l:aD,bytesOf (bI l)=l:=u5
  have h2:eG (t:=.int .u8) (bI t) 64 j=bI ((t.drop (j*64)).take 64):=by simp[eG,bI,List.map_take,List.map_drop]
  rw[h2,h]
 rw[e,List.getElem?_take,if_pos hr,List.getElem?_drop]
def Vj{d:Dk}(hs:∀i,i<d.2.2.1.length->(nth .str d.2.2.1 i).length=64){b:Int}(hb:0<=b)(hb2:b+55<=d.2.2.1.length){t:aD}(ht:t.length<=3520)
  (hw:∀j,j<fN t.length 64->nth .str d.2.2.1 (b.toNat+j)=eI (bytesOf (eG (t:=.int .u8) (bI t) 64 j))):(jo d b 55).take t.length=t:=by
 apply ch;intro i;by_cases c:i<t.length
 ·rw[List.getElem?_take,if_pos c,Lp hs hb 55 hb2 i (by omega)]
  have hj:i / 64<fN t.length 64:=by unfold fN;omega
  rw[hw _ hj];unfold eI;have hg:=QA t (i / 64) (i % 64) (Nat.mod_lt _ (by decide));have hi:i / 64*64+i % 64=i:=by omega
  rw[hi]at hg;have hlt:i % 64<(bytesOf (eG (t:=.int .u8) (bI t) 64 (i / 64))).length:=by
   apply Classical.byContradiction;intro hn;rw[List.getElem?_eq_none (by omega)]at hg;rw[List.getElem?_eq_getElem c]at hg;cases hg
  rw[List.getElem?_append_left hlt,hg]
 ·rw[List.getElem?_take,if_neg c,List.getElem?_eq_none (by omega)]
def QB(a b:Int)(s:aD):ah 1 (ad 5 (fJ a b++s))=jW a/\ah 5 (ad 9 (fJ a b++s))=jW b/\(dH (fJ a b++s) 0).toNat=83:=by
 refine⟨rfl,rfl,rfl⟩
def Ix{d:Dk}{p:Nat}{a b:Nat}(h:nth .str d.2.2.1 p=eI (fJ a b))(ha:a<2^32)(hb:b<2^32) :
  ((dH (nth .str d.2.2.1 p) 0).toNat:Int)=83/\pN d p=(a:Int)/\qN d p=(b:Int):=by
 obtain⟨h1,h2,h3⟩:=QB a b (bx (64-(fJ a b).length) 0);rw[qa,rE,h];unfold eI;exact⟨by rw[h3];rfl,by rw[h1];exact E7 ha,by rw[h2];exact E7 hb⟩
structure jk (d:Dk) (r:Nat) (l:List (D aC)):Prop where
 gK:pK d
 quiet:d.2.2.2.1=[]
 tu:∀e∈l,bC e=0
 mJ:l.length<=3
 r2:2<=r
 rM:r<=1000000000
 head:nth .str d.2.2.1 (r % 2)=eI (fJ r (fL l).length)
 other:((dH (nth .str d.2.2.1 (1-r % 2)) 0).toNat:Int)≠83\/pN d (1-r % 2)<(r:Int)
 text:(jo d (2+((r % 2:Nat):Int)*55) 55).take (fL l).length=fL l
def xL:∀{l:List (D aC)},(∀e∈l,bC e=0)->lH l=0
 |[],_=>rfl
 |e :: r,h=>by unfold lH;rw[if_neg (not_not_intro (h e (by simp)))];exact xL fun x hx=>h x (by simp[hx])
def jk.small{d:Dk}{r:Nat}{l:List (D aC)}(h:jk d r l):(fL l).length<=2256:=by
 have:=vz h.tu;have:=h.mJ;omega
def jk.Xf{d:Dk}{r:Nat}{l:List (D aC)}(h:jk d r l):eH d 2=((r:Int),((fL l).length:Int)):=by
 have hr:=h.r2;have hM:=h.rM;have hs:=h.small;obtain⟨k1,k2,k3⟩:=Ix h.head (by omega) (by omega);have ho:=h.other;rcases Nat.mod_two_eq_zero_or_one r with e|e
 ·rw[e]at k1 k2 k3 ho
  have h1:eH d 1=((r:Int),((fL l).length:Int)):=by
   rw[uj k1 (by rw[Cy,k2];show(0:Int)<r;omega) (by rw[k3];omega),k2,k3]
  rw[yB (i:=1) fun hh =>?_,h1];rcases ho with ho|ho
  ·exact ho hh.1
  ·have h2:=hh.2.1
   rw[h1]at h2;have h2:(r:Int)<pN d 1:=h2;have ho:pN d 1<(r:Int):=ho;omega
 ·rw[e]at k1 k2 k3 ho
  have h1:(eH d 1).1<(r:Int):=by
   by_cases c:((dH (nth .str d.2.2.1 0) 0).toNat:Int)=83/\(eH d 0).1<pN d 0/\qN d 0<=3520
   ·rw[uj c.1 c.2.1 c.2.2]
    rcases ho with ho|ho
    ·exact absurd c.1 ho
    ·exact ho
   ·rw[yB c,Cy];show(0:Int)<r;omega
  rw[uj (i:=1) k1 (by rw[k2];exact h1) (by rw[k3];omega),k2,k3]
def jk.lines{d:Dk}{r:Nat}{l:List (D aC)}(h:jk d r l):dK d=l.map fS++[[]]:=by
 rw[gO,kC,h.Xf];have e:((r:Int)).tmod 2=((r % 2:Nat):Int):=by rw[ay (by omega)];omega
 simp only[e,aj];rw[h.text,CA h.tu]
def jk.opens{d:Dk}{r:Nat}{l:List (D aC)}(h:jk d r l):dP d=(((r:Int),l),0):=by
 have h5:=h.Xf;rw[Lo h.gK.down (by have:=h.gK.len;omega) (by rw[h5];have:=h.r2;show ¬(r:Int)=0;omega) (by rw[h.lines];exact Tn h.tu),h.lines,Tm h.tu,h5]
def NH{l:List (D aC)}(h:∀e∈l,bC e=0):(dO l).1=fL l:=by unfold dO;rw[if_neg (not_not_intro (xL h))]
def z1{d:Dk}(g:pK d):(bP d).1.2.2.2.1=[]:=by
 have e:bP d=((d.1,d.2.2.1,d.2.2.1,[],()),0):=by unfold bP;rw[xK g,if_pos rfl]
 rw[e]
def Vk{d:Dk}{r:Nat}{l l':List (D aC)}(h:jk d r l)(hf:∀e∈l',bC e=0)(hn:l'.length<=3)(hr:r+1<=1000000000) :
  (eJ d r l').2=0/\jk (eJ d r l').1 (r+1) l':=by
 have hb:=xL hf;have ht:=NH hf;have hs:(fL l').length<=2256:=by have:=vz hf;omega
 have hlen:=h.gK.len;obtain⟨p,hp,hpd⟩:∃p:Nat,p<=1/\p=(r+1) % 2:=⟨_,by omega,rfl⟩
 have hm:((r:Int)+1).tmod 2=(p:Int):=by rw[ay (by omega)];omega
 have hq:r % 2=1-p:=by omega
 have hN:(il l').length=fN (fL l').length 64:=by unfold il;rw[bk,ht,zF]
 have hN2:fN (fL l').length 64<=36:=by unfold fN;omega
 obtain⟨a1,a2,a3,a4,a5⟩:=Iw (bI (fL l')) (il l') (s:=2+(p:Int)*55) h.gK (by omega) (by rw[hN];omega);have ew:ik l' r d (il l')=mn (bI (fL l')) d (2+(p:Int)*55) (il l'):=by unfold ik;rw[ht,hm]
 rw[<-ew]at a1 a2 a3 a4 a5;obtain⟨b1,b2,b3⟩:=rq a2;have ef:Cw l' r d=bP (ik l' r d (il l')).1:=rfl;rw[<-ef]at b1 b2 b3;obtain⟨c1,c2,c3⟩:=rp b3 (a:=(p:Int)) (s:=fJ ((r:Int)+1) (fL l').length) (by omega) (by rw[b2,a3];omega) (by rw[EZ];decide);have eh:vV l' r d=bL (Cw l' r d).1 (p:Int) (fJ ((r:Int)+1) (fL l').length):=by unfold vV;rw[ht,hm]
 rw[<-eh]at c1 c2 c3;obtain⟨e1,e2,e3⟩:=rq c3;have ek:eJ d r l'=bP (vV l' r d).1:=by
  unfold eJ;rw[if_neg (not_not_intro hb),if_neg (not_not_intro a1),if_neg (not_not_intro b1),if_neg (not_not_intro c1)]
 rw[ek];have hsec:(bP (vV l' r d).1).1.2.2.1=(ik l' r d (il l')).1.2.2.1.set p (eI (fJ ((r:Int)+1) (fL l').length)):=by
  rw[e2,c2,b2,aj]
 have hpl:p<(ik l' r d (il l')).1.2.2.1.length:=by rw[a3];omega
 have htn:(2+(p:Int)*55).toNat=2+p*55:=by omega
 rw[htn]at a4 a5;refine⟨e1,{gK:=e3,quiet:=z1 c3,tu:=hf,mJ:=hn,r2:=by have:=h.r2;omega,rM:=hr,head:=?_,other:=?_,text:=?_}⟩
 ·rw[<-hpd,hsec,nH (t:=.str) hpl];rfl
 ·rw[<-hpd]
  have hk:nth .str (bP (vV l' r d).1).1.2.2.1 (1-p)=nth .str d.2.2.1 (1-p):=by
   rw[hsec,nG (t:=.str) (by omega),a5 _ (.inl (by omega))]
  have hh:=h.head;rw[hq]at hh;have hM:=h.rM;have hsm:=h.small;obtain⟨k1,k2,k3⟩:=Ix hh (by omega) (by omega);right;rw[qa,hk,<-qa,k2];omega
 ·rw[<-hpd]
  refine Vj (b:=2+(p:Int)*55) (fun i hi=>e3.sec i hi) (by omega) (by rw[hsec,af,a3];omega) (by omega) fun j hj =>?_
  rw[htn,hsec,nG (t:=.str) (by omega),a4 j (by rw[hN];exact hj)];unfold il;rw[ht,zF,List.getD_eq_getElem?_getD,List.getElem?_range hj];rfl
def sd{n:Int}(h:112<=n):pK (qV n) where
 down:=rfl
 l8:=rfl
 len:=by show 112<=(bx n.toNat (eI [])).length;rw[List.length_replicate];omega
 sec:=fun i hi=>by
  have:i<(bx n.toNat (eI [])).length:=hi;rw[show nth .str (qV n).2.2.1 i=eI []from List.eq_of_mem_replicate (dV (t:=.str) this)];exact Iv (by decide)
 To:=rfl
def qP{d:Dk}(g:pK d):(iR d).2=0/\jk (iR d).1 2 []:=by
 rw[ma];have hlen:=g.len;obtain⟨a1,a2,a3⟩:=rp g (a:=1) (s:=[]) (by omega) (by omega) (by decide);obtain⟨b1,b2,b3⟩:=rq a3;obtain⟨c1,c2,c3⟩:=rp b3 (a:=0) (s:=fJ 2 0) (by omega) (by rw[b2,a2,af];omega) (by rw[EZ];decide);obtain⟨e1,e2,e3⟩:=rq c3;have ek:gF d=bP (bL (bP (bL d 1 []).1).1 0 (fJ 2 0)).1:=by
  unfold gF;rw[if_neg (by omega),if_neg (not_not_intro a1),if_neg (not_not_intro b1),if_neg (not_not_intro c1)]
 rw[ek];have hsec:(bP (bL (bP (bL d 1 []).1).1 0 (fJ 2 0)).1).1.2.2.1=(d.2.2.1.set 1 (eI [])).set 0 (eI (fJ 2 0)):=by
  rw[e2,c2,b2,a2];rfl
 refine⟨e1,{gK:=e3,quiet:=z1 c3,tu:=fun e he=>absurd he (by simp),mJ:=by simp,r2:=a7 _,rM:=by decide,head:=?_,other:=.inl ?_,text:=rfl}⟩
 ·rw[hsec];exact nH (t:=.str) (by rw[af];omega)
 ·rw[hsec]
  show((dH (nth .str ((d.2.2.1.set 1 (eI [])).set 0 (eI (fJ 2 0))) 1) 0).toNat:Int)≠83;rw[nG (t:=.str) (by omega),nH (t:=.str) (by omega)];decide
structure fG (x:Sh) (m:List (D aC)) (k:Nat):Prop where
 list:x.1.2.1=m
 names:(m.map (·.1)).Nodup
 Dz:∃r:Nat,(x.1.1:Int)=(r:Int)/\r<=2+k/\jk x.2 r m
def vA{x:Sh}{m l:List (D aC)}{k:Nat}(h:fG x m k)(hk:k<=1000)(hf:∀e∈l,bC e=0)(hl:l.length<=3)(hn:(l.map (·.1)).Nodup):(qu x l).2=0/\fG (qu x l).1 l (k+1):=by
 obtain⟨r,h1,h2,h3⟩:=h.Dz;obtain⟨k1,k2⟩:=Vk h3 hf hl (by omega);unfold qu;rw[show(x.1.1:Int)=(r:Int)from h1,if_pos k1];exact⟨k1,rfl,hn,r+1,rfl,by omega,k2⟩
def fG.next{x:Sh}{m:List (D aC)}{k:Nat}(h:fG x m k):fG x m (k+1):=⟨h.list,h.names,let⟨r,h1,h2,h3⟩:=h.Dz;⟨r,h1,by omega,h3⟩⟩
def QC{m:List (D aC)}{e:D aC}{i:Nat}(hi:i<m.length)(he:(nth aC m i).1=e.1):(m.set i e).map (·.1)=m.map (·.1):=by
 apply ch;intro j;rw[List.getElem?_map,List.getElem?_map,List.getElem?_set];by_cases c:i=j
 ·subst c
  rw[if_pos rfl,if_pos hi];have:=pw (t:=aC) hi;rw[this];simp[he]
 ·rw[if_neg c]
def Tp{p:Nat->Prop}(h:∃i,p i):∃i,(∀j,j<i->¬p j)/\p i:=by
 obtain⟨i,hi⟩:=h;induction i using Nat.strongRecOn with
 |ind i ih=>
  by_cases c:∃j,j<i/\p j
  ·obtain⟨j,h1,h2⟩:=c;exact ih j h1 h2
  ·exact⟨i,fun j hj hp=>c ⟨j,hj,hp⟩,hi⟩
def yC(m:List (D aC))(s:aD):(∃i,i<m.length/\(∀j,j<i->(nth aC m j).1≠s)/\(nth aC m i).1=s/\eB m s=(i:Int))\/((∀j,j<m.length->(nth aC m j).1≠s)/\eB m s= -1):=by
 by_cases h:∃i,i<m.length/\(nth aC m i).1=s
 ·left
  obtain⟨i,h0,h1,h2⟩:=Tp h;exact⟨i,h1,fun j hj e=>h0 j hj ⟨by omega,e⟩,h2,AX h1 (fun j hj e=>h0 j hj ⟨by omega,e⟩) h2⟩
 ·right
  have h':∀j,j<m.length->(nth aC m j).1≠s:=fun j hj e=>h ⟨j,hj,e⟩
  exact⟨h',rm h'⟩
def Tq{m:List (D aC)}{e:D aC}{i:Nat}(h:∀x∈m,bC x=0)(he:bC e=0):∀x∈m.set i e,bC x=0:=fun x hx=>by
 rcases cj hx with h1|h1
 ·exact h x h1
 ·exact h1▸he
def Iy{m:List (D aC)}{s:aD}(h:∀j,j<m.length->(nth aC m j).1≠s):s∉m.map (·.1):=fun hm=>by
 obtain⟨e,he,rfl⟩:=al.1 hm;obtain⟨j,hj,rfl⟩:=gR (t:=aC) he;exact h j hj rfl
def Iz{x:Sh}{m:List (D aC)}{k:Nat}(h:fG x m k)(hk:k<=1000)(e:D aC):(kv x e).2=(oS m e).2/\fG (kv x e).1 (oS m e).1 (k+1):=by
 obtain⟨r,h1,h2,h3⟩:=h.Dz;have hl:=h.list;by_cases hf:bC e=0
 ·rcases yC m e.1 with⟨i,i1,i2,i3,i4⟩|⟨j1,j2⟩
  ·rw[Lm hf (by rw[hl,i4];omega),hl,i4,Tf (by omega) i1 i2 i3,aj]
   exact vA h hk (Tq h3.tu hf) (by rw[af];exact h3.mJ) (by rw[QC i1 i3];exact h.names)
  ·by_cases c:(m.length:Int)=3
   ·rw[Ip hf (by rw[hl,j2];omega) (by rw[hl];exact c),Qr (by omega) j1 c]
    exact⟨rfl,h.next⟩
   ·rw[Dw hf (by rw[hl,j2];omega) (by rw[hl];exact c),hl,Tg (by omega) j1 c]
    refine vA h hk (fun y hy =>?_) (by rw[ab,bt];have:=h3.mJ;omega) ?_
    ·rcases bw.1 hy with hy|hy
     ·exact h3.tu y hy
     ·rw[bc.1 hy];exact hf
    ·rw[List.map_append,List.nodup_append]
     refine⟨h.names,by simp,fun a ha b hb hab =>?_⟩;rw[List.map_singleton,bc]at hb;exact Iy j1 (by rw[<-hb,<-hab];exact ha)
 ·have:=vR e
  rw[E3 hf,NB (by omega)];exact⟨rfl,h.next⟩
def CC{m:List (D aC)}{s:aD}(h:s∉m.map (·.1)):vy m s=m:=by
 unfold vy;exact cf.2 fun e he=>decide_eq_true fun hh=>h (al.2 ⟨e,he,hh⟩)
def A4:∀{m:List (D aC)} {s:aD} {i:Nat},(m.map (·.1)).Nodup->i<m.length->(nth aC m i).1=s->vy m s=m.eraseIdx i
 |[],_,_,_,h,_=>absurd h (cg _)
 |e :: r,s,0,hn,_,he=>by
  have he:e.1=s:=he;rw[az,bz]at hn;have h2:=CC (m:=r) (s:=s) (by rw[<-he];exact hn.1);unfold vy at*;rw[bu,if_neg (by simp[he]),h2];rfl
 |e :: r,s,i+1,hn,hi,he=>by
  have he:(nth aC r i).1=s:=he;rw[az,bz]at hn;have hi:i<r.length:=by simpa using hi
  have h2:=A4 (m:=r) (s:=s) (i:=i) hn.2 hi he;have hne:e.1≠s:=fun hh=>hn.1 (by rw[hh,<-he];exact al.2 ⟨_,dV (t:=aC) hi,rfl⟩)
  unfold vy at*;rw[bu,if_pos (decide_eq_true hne),h2];rfl
def E8{x:Sh}{m:List (D aC)}{k:Nat}(h:fG x m k)(hk:k<=1000)(s:aD):(gL x s).2=(nO m s).2/\fG (gL x s).1 (nO m s).1 (k+1):=by
 obtain⟨r,h1,h2,h3⟩:=h.Dz;have hl:=h.list;rcases yC m s with⟨i,i1,i2,i3,i4⟩|⟨j1,j2⟩
 ·have e:=A4 h.names i1 i3
  have el:(m.eraseIdx i).length=m.length-1:=by rw[ck,if_pos i1]
  have ed:nO m s=(m.eraseIdx i,0):=by unfold nO;rw[if_neg (by rw[e,el];omega),e]
  unfold gL;rw[if_pos (by rw[hl,i4];omega),hl,i4,ed,aj];exact vA h hk (fun y hy=>h3.tu y (List.mem_of_mem_eraseIdx hy)) (by rw[el];have:=h3.mJ;omega) (h.names.sublist ((List.eraseIdx_sublist m i).map _))
 ·have e:=CC (Iy j1)
  have ed:nO m s=(m,5):=by unfold nO;rw[if_pos (by rw[e]),]
  unfold gL;rw[if_neg (by rw[hl,j2];omega),ed];exact⟨rfl,h.next⟩
def jl:Sh:=((2,[],()),(iR (qV 112)).1)
def jE:fG jl [] 0:=⟨rfl,List.nodup_nil,2,rfl,a7 _,(qP (sd (aw _))).2⟩
def fG.at{x:Sh}{m:List (D aC)}{k:Nat}(h:fG x m k):∃r:Nat,x.1=((r:Int),m,())/\r<=2+k/\jk x.2 r m:=by
 obtain⟨r,h1,h2,h3⟩:=h.Dz;exact⟨r,ai h1 (ai h.list rfl),h2,h3⟩
def fG.opens{x:Sh}{m:List (D aC)}{k:Nat}(h:fG x m k):dP x.2=((x.1.1,m),0):=by
 obtain⟨r,h1,h2,h3⟩:=h.at;rw[h3.opens,h1]
def fG.DA{x:Sh}{m:List (D aC)}{k:Nat}(h:fG x m k):(dP x.2).2=0:=by rw[h.opens]
def fG.again{x:Sh}{m:List (D aC)}{k:Nat}(h:fG x m k):(((dP x.2).1.1,(dP x.2).1.2,()):Int×List (D aC)×Unit)=x.1:=by
 rw[h.opens];exact ai rfl (ai h.list.symm rfl)
def jk.vB{d:Dk}{r:Nat}{l:List (D aC)}(h:jk d r l):cZ d 1000000:=⟨by have:=h.gK.l8;omega,by rw[h.quiet];exact Nat.zero_le _,h.gK.To⟩
def fG.vB{x:Sh}{m:List (D aC)}{k:Nat}(h:fG x m k):cZ x.2 1000000:=let⟨_,_,_,h3⟩:=h.at;h3.vB
def fG.sec{x:Sh}{m:List (D aC)}{k:Nat}(h:fG x m k):∀i,i<x.2.2.2.1.length->(nth .str x.2.2.2.1 i).length=64:=let⟨_,_,_,h3⟩:=h.at;h3.gK.sec
def fG.mJ{x:Sh}{m:List (D aC)}{k:Nat}(h:fG x m k):x.1.2.1.length<=3:=by rw[h.list];let⟨_,_,_,h3⟩:=h.at;exact h3.mJ
def fG.round{x:Sh}{m:List (D aC)}{k:Nat}(h:fG x m k):0<=(x.1.1:Int)/\(x.1.1:Int)<=2+k:=by
 obtain⟨r,h1,h2,_⟩:=h.Dz;omega
def fG.Xn{x:Sh}{m:List (D aC)}{k:Nat}(h:fG x m k)(hk:k<=1000):x.1.2.1.length<=100/\0<=(x.1.1:Int)/\(x.1.1:Int)<=1000000000/\cZ x.2 1000000:=
 ⟨aq h.mJ (by decide),h.round.1,by have:=h.round.2;omega,h.vB⟩
def fG.Lq{x:Sh}{m:List (D aC)}{k:Nat}(h:fG x m k)(hk:k<=1000):x.1.2.1.length<=99/\0<=(x.1.1:Int)/\(x.1.1:Int)<=1000000000/\cZ x.2 1000000:=
 ⟨aq h.mJ (by decide),h.round.1,by have:=h.round.2;omega,h.vB⟩
def fG.self{x:Sh}{m:List (D aC)}{k:Nat}(h:fG x m k):fG x x.1.2.1 k:=by rw[h.list];exact h
def E9{b:List Int}{i n:Int}{t:D bB}(h:(kn b i t n).2.isNil=true):(-2147483648:Int)<=(kn b i t n).1/\(kn b i t n).1<=(2147483647:Int):=by
 unfold kn at h ⊢;split
 ·rename_i hk
  rw[if_pos hk]at h;split
  ·exact⟨by decide,by decide⟩
  ·rename_i h1
   exact⟨by show(-2147483648:Int)<=n-(oe b i.toNat+t.1);omega,by show n-(oe b i.toNat+t.1)<=(2147483647:Int);omega⟩
 ·split
  ·exact⟨by decide,by decide⟩
  ·rename_i h1
   exact⟨by show(-2147483648:Int)<=n;omega,by show n<=(2147483647:Int);omega⟩
def Ts{l:List (D aA)}{b:List Int}{i:Int}{t:D bB}(h:(gT l b i t).2.isNil=true):(-2147483648:Int)<=(gT l b i t).1/\(gT l b i t).1<=(2147483647:Int):=by
 unfold gT at h ⊢;split
 ·rename_i hk;rw[if_pos hk]at h;exact E9 h
 ·rename_i hk
  rw[if_neg hk]at h;split
  ·rename_i h1;rw[if_pos h1]at h;exact E9 h
  ·exact⟨show(-2147483648:Int)<=0 by decide,show(0:Int)<=2147483647 by decide⟩
def IA{l:List (D aA)}{b:List Int}:∀{os:List (D aA)} {i:Nat},(∀k,k<os.length->(nth aA os k).2.2.2.1.length<=6)->(qX l b os i).length<=6*os.length
 |[],i,_=>by simp[qX]
 |o :: r,i,h=>by
  have h0:o.2.2.2.1.length<=6:=h 0 (by simp);have hr:=IA (l:=l) (b:=b) (os:=r) (i:=i+1) fun k hk=>h (k+1) (by simp;omega)
  have hl:(AR l b i o.2.2.2.1).length=o.2.2.2.1.length:=by simp[AR]
  show(AR l b i o.2.2.2.1++qX l b r (i+1)).length<=6*(r.length+1);rw[ab];omega
def Fa(s:List Int):∀k,jb s k % 16=0
 |0=>rfl
 |k+1=>by
  have h:=Fa s k;show(jb s k+cK (nth (.int .i64) s k)) % 16=0;unfold cK;omega
def kg.base{rd:Rd}{root:aD}{ns:List aD}{os:List (D aA)}{bs:List Int}{ps:List Pt}(h:kg rd root ns os bs ps){i:Nat}(hi:i<os.length) :
  (0:Int)<=nth (.int .i64) bs i/\nth (.int .i64) bs i<=(255:Int)/\nth (.int .i64) bs i % (16:Int)=0:=by
 obtain⟨h1,h2,h3⟩:=h.sum;have hs:∀j,j<(cA os).length->1<=(nth (.int .i64) (cA os) j:Int)/\(nth (.int .i64) (cA os) j:Int)<=40:=by
  intro k hk;rw[pH]at hk;rw[Ce hk];have:=h1 k hk;exact⟨b4.2 this.1,b4.2 this.2⟩
 have hm:=MZ hs (os.length-(i+1)) (i+1) (by rw[pH];omega);rw[show i+1+(os.length-(i+1))=os.length by omega]at hm;have e:jb (cA os) (i+1)=jb (cA os) i+cK (nth (.int .i64) (cA os) i):=rfl;have hr:=(J0 (n:=nth (.int .i64) (cA os) i)).1;have hp:=(hs i (by rw[pH];exact hi)).1;have hb:=h.bi i (by rw[h.bl];exact hi);refine⟨hb.1,?_,by rw[h3 i hi];exact Fa _ _⟩;rw[h3 i hi];have h2:jb (cA os) os.length<=256:=h2;have hr:(nth (.int .i64) (cA os) i:Int)<=cK (nth (.int .i64) (cA os) i):=hr;have hp:(1:Int)<=nth (.int .i64) (cA os) i:=hp;have key:∀b c d s:Int,b=c+d->s<=d->1<=s->b<=256->c<=255:=by intros;omega
 exact key _ _ _ _ e hr hp (bd hm h2)
def NI{x:dA}(g:gI x){root:aD}{ns:List aD}{os:List (D aA)}{bs:List Int}{ps:List Pt}(h:kg (aL x) root ns os bs ps):bC (root,cD (aL x) ns bs ns.length,ps,())=0:=by
 have hrd:∀j,j<ns.length->(aL x (nth .str ns j)).2.2=0:=fun j hj=>(kf g.ok (h.sc.xw j hj).1).1
 have hl:=h.sc.len;have hle:=h.sc.le;have hpos:=h.sc.pos;have hroot:aN root=0:=by
  have:=(g.read (hrd 0 hpos)).1;rw[h.sc.head]at this;exact this
 have hps:ps.length<=36:=by
  rw[h.pt];have:=IA (l:=os) (b:=bs) (os:=os) (i:=0) fun k hk=>(h.sc.obj g.ok hk).t6
  omega
 refine EN (Int.le_of_eq hroot) (iK ?_ ?_ ?_) (fun j hj =>?_) (fun j hj =>?_)
 ·show(1:Int)<=((cD (aL x) ns bs ns.length).length:Int);rw[eW];omega
 ·show((cD (aL x) ns bs ns.length).length:Int)<=6;rw[eW];omega
 ·show(ps.length:Int)<=36;omega
 ·have hj:j<ns.length:=by rw[<-eW (aL x) ns bs ns.length];exact hj
  show eE (nth aG (cD (aL x) ns bs ns.length) j)=0;rw[ju hj];obtain⟨r1,_,r3,r4⟩:=g.read (hrd j hj);obtain⟨b1,b2,b3⟩:=h.base (i:=j) (by omega);have hm:=g.st.pre.2.2;exact HU (Int.le_of_eq r1) r3 (bd r4 hm) b1 b2 b3
 ·have hj:j<ps.length:=hj
  show eM (cD (aL x) ns bs ns.length).length (nth aS ps j)=0;rw[eW];have hp:=h.Xe j hj;have hmem:nth aS ps j∈qX os bs os 0:=by rw[<-h.pt];exact dV (t:=aS) hj
  obtain⟨k,t,hk,ht,e⟩:=AS hmem;rw[Nat.zero_add]at e;have hw:=Ts (h.one k hk t ht);have h40:=(h.sc.obj g.ok hk).Up;have h2:=hp.2.2.2;have h1:=hp.2.1;rw[nM]at h1;have ek:(nth aS ps j).1=(k:Int):=by rw[e]
  rw[ek,aj,vj hk]at h2;refine Ck hp.1 (by rw[ek];omega) hp.2.2.1 (Int.le_of_lt_add_one (show _<(39:Int)+1 from Int.lt_of_lt_of_le h2 (b4.2 h40))) ?_ ?_
  ·rw[e];exact hw.1
  ·rw[e];exact hw.2
def Fb{x:dA}(g:gI x){root:aD}(h1:(aI (dQ (aL x) root).2).isNil=true) :
  (gH (aL x) root).2=0/\kz (aL x) (dQ (aL x) root).1=gH (aL x) root/\fM (aL x) (dQ (aL x) root).1=true/\bC (dQ (aL x) root).1=0:=by
 obtain⟨ns,os,bs,ps,e,hr,em⟩:=ET g.ok h1;have hf:=hr.fresh g.ok;have hu:=hr.use g.ok (rd':=aL x) (fun _ _=>rfl) hf;have hl:=U6 e hr;rw[em];exact⟨by rw[hl],hu.trans hl.symm,hf,NI g hr⟩
def mo(f:dA)(e:D aC):Prop:=∃f0:dA,gI f0/\f0.1.1<=f.1.1/\dQ (aL f0) e.1=(e,0)/\∀k,(aL f k).2.2=0->(aL f k).2.1<=f0.1.1->aL f k=aL f0 k
def NJ(f:dA)(s t k:aD):aL (cJ f s t).1 k=aL f k\/(aL (cJ f s t).1 k).2.1=f.1.1+1:=by
 cases he:(aI (cJ f s t).2).isNil with
 |false=>left;rw[Pq he]
 |true=>
  by_cases e:k=s
  ·right;rw[e,Pp he]
  ·left;exact MK e
def mo.write{f:dA}{e:D aC}(h:mo f e)(g:gI f)(s t:aD):mo (cJ f s t).1 e:=by
 obtain⟨f0,h1,h2,h3,h4⟩:=h;refine⟨f0,h1,bd h2 (g.st.write s t).2,h3,fun k a b =>?_⟩;rcases NJ f s t k with c|c
 ·rw[c]at a b ⊢;exact h4 k a b
 ·have h2:(f0.1.1:Int)<=f.1.1:=h2
  have b:((aL (cJ f s t).1 k).2.1:Int)<=f0.1.1:=b;rw[c]at b;omega
def Fc{s:aD}:∀{es:List FE},(es.map pz).Nodup->cT cI (fU cI es s) s=false
 |[],_=>rfl
 |y :: es,h=>by
  rw[az,bz]at h;by_cases e:y.1=s
  ·have hd:fU cI (y :: es) s=es:=if_pos e
   rw[hd];cases hh:cT cI es s with
   |false=>rfl
   |true=>
    obtain⟨z,hz,e2⟩:=lY.1 hh;exact absurd (al.2 ⟨z,hz,(e2.trans e.symm:pz z=pz y)⟩) h.1
  ·have hd:fU cI (y :: es) s=y :: fU cI es s:=if_neg e
   rw[hd];have:=Fc (s:=s) h.2;simp only[cT]at this ⊢;simp[this,e]
def QD{f:dA}(g:gI f)(s:aD):(aL (fE f s).1 s).2.2=5:=by
 obtain⟨r,hr⟩:=g.st.gK;cases hh:cT cI f.2.1.1 s with
 |false=>rw[mv hh,lL hh]
 |true=>
  rw[lC hh,lL];exact Fc hr.names
def mo.remove{f:dA}{e:D aC}(h:mo f e)(g:gI f)(s:aD):mo (fE f s).1 e:=by
 obtain⟨f0,h1,h2,h3,h4⟩:=h;refine⟨f0,h1,bd h2 (g.st.remove s).2,h3,fun k a b =>?_⟩;by_cases c:k=s
 ·subst c;rw[QD g]at a;cases a
 ·rw[PV c]at a b ⊢;exact h4 k a b
def mo.self{f:dA}(g:gI f){s:aD}{e:D aC}(h:dQ (aL f) s=(e,0))(hs:e.1=s):mo f e:=⟨f,g,aw _,by rw[hs];exact h,fun _ _ _=>rfl⟩
def QF{rd:Rd}{s:aD}(h:(dQ rd s).2=0):(dQ rd s).1.1=s:=by
 unfold dQ at h ⊢;split
 ·rename_i c;rw[if_pos c]at h;exact absurd h c
 ·rfl
def mo.Xo{f:dA}{e:D aC}(h:mo f e)(hf:fM (aL f) e=true):dQ (aL f) e.1=(e,0):=by
 obtain⟨f0,h1,h2,h3,h4⟩:=h;obtain⟨ns,os,bs,ps,e1,hr,em⟩:=ET h1.ok (root:=e.1) (by rw[h3];rfl);have he:e=(e.1,cD (aL f0) ns bs ns.length,ps,()):=by
  have:=em;rw[h3]at this;exact congrArg Prod.fst this
 rw[Nf e1 hr (rd':=aL f) fun k hk =>?_,h3];obtain⟨j,hj,rfl⟩:=gR (t:=.str) hk;obtain⟨_,q⟩:=EM hf;have hst:e.2.1=cD (aL f0) ns bs ns.length:=by rw[he]
 have qj:=q j (by rw[hst,eW];exact hj);rw[hst,ju hj]at qj;simp only at qj;have hrd:(aL f0 (nth .str ns j)).2.2=0:=by
  have:=ER h1.ok (s:=e.1) (by rw[e1]) (i:=j) (by rw[e1];exact hj);rw[e1]at this;exact this
 refine h4 _ qj.1 ?_;rw[qj.2];exact(h1.read hrd).2.2.2
def kU(f:dA)(l:List (D aC))(s:aD):List (D dF)×Bool×Int:=
 if(fK l s).2=true/\fM (aL f) (fK l s).1=true then((kz (aL f) (fK l s).1).1,decide ((kz (aL f) (fK l s).1).2=0),(kz (aL f) (fK l s).1).2)
 else((gH (aL f) s).1,false,(gH (aL f) s).2)
def Fe{l:List (D aC)}{s:aD}(h:(fK l s).2=true):(fK l s).1∈l/\(fK l s).1.1=s:=by
 rcases yC l s with⟨i,i1,i2,i3,i4⟩|⟨j1,j2⟩
 ·rw[Ln (by omega),i4,aj];exact⟨dV (t:=aC) i1,i3⟩
 ·rw[Iq (by omega)]at h;cases h
structure gU (f:dA) (l:List (D aC)):Prop where
 gK:gI f
 made:∀e∈l,mo f e
def gU.new:gU qq []:=⟨.new,fun e he=>absurd he (by simp)⟩
def gU.write{f:dA}{l:List (D aC)}(h:gU f l)(s t:aD):gU (cJ f s t).1 l:=⟨h.gK.write s t,fun e he=>(h.made e he).write h.gK s t⟩
def gU.remove{f:dA}{l:List (D aC)}(h:gU f l)(s:aD):gU (fE f s).1 l:=⟨h.gK.remove s,fun e he=>(h.made e he).remove h.gK s⟩
def Tt{l:List (D aC)}{e x:D aC}(h:x∈(oS l e).1):x=e\/x∈l:=by
 unfold oS at h;split at h
 ·exact .inr h
 ·split at h
  ·exact .inr h
  ·rename_i l' hl
   unfold qv at hl;split at hl
   ·cases hl
    rcases cj h with h|h
    ·exact .inr h
    ·exact .inl h
   ·split at hl
    ·cases hl
    ·cases hl
     rcases bw.1 h with h|h
     ·exact .inr h
     ·exact .inl (bc.1 h)
def QG{l:List (D aC)}{s:aD}{x:D aC}(h:x∈(nO l s).1):x∈l:=by
 unfold nO at h;split at h
 ·exact h
 ·exact(List.mem_filter.1 h).1
def se(f:dA)(l:List (D aC))(s:aD):List (D aC)×Int:=if(dQ (aL f) s).2=0 then oS l (dQ (aL f) s).1 else(l,(dQ (aL f) s).2)
def gU.put{f:dA}{l:List (D aC)}(h:gU f l){s:aD}(hm:(dQ (aL f) s).2=0):gU f (oS l (dQ (aL f) s).1).1:=by
 refine⟨h.gK,fun x hx =>?_⟩;rcases Tt hx with rfl|hx
 ·exact mo.self h.gK (ai rfl hm) (QF hm)
 ·exact h.made x hx
def gU.build{f:dA}{l:List (D aC)}(h:gU f l)(s:aD):gU f (se f l s).1:=by
 unfold se;split
 ·rename_i hm;exact h.put hm
 ·exact h
def gU.drop{f:dA}{l:List (D aC)}(h:gU f l)(s:aD):gU f (nO l s).1:=⟨h.gK,fun x hx=>h.made x (QG hx)⟩
def gU.load{f:dA}{l:List (D aC)}(h:gU f l)(s:aD):(kU f l s).1=(gH (aL f) s).1/\(kU f l s).2.2=(gH (aL f) s).2/\
  (kU f l s).2.1=((fK l s).2&&fM (aL f) (fK l s).1)/\((kU f l s).2.1=true->(gH (aL f) s).2=0):=by
 unfold kU;by_cases c:(fK l s).2=true/\fM (aL f) (fK l s).1=true
 ·rw[if_pos c]
  obtain⟨m1,m2⟩:=Fe c.1;have ha:=(h.made _ m1).Xo c.2;rw[m2]at ha;obtain⟨u1,u2,u3,u4⟩:=Fb h.gK (root:=s) (by rw[ha];rfl);rw[ha]at u2;rw[u2,u1,c.1,c.2];exact⟨rfl,rfl,rfl,fun _=>rfl⟩
 ·rw[if_neg c]
  refine⟨rfl,rfl,?_,fun e=>by cases e⟩;show false=_;exact(Bool.eq_false_iff.2 fun e=>c (by rw[Bool.and_eq_true]at e;exact e)).symm
def xM(x:Sh):Prop:=x.1.2.1.length<=99/\0<=(x.1.1:Int)/\(x.1.1:Int)<=1000000000/\cZ x.2 1000000
def vC(l:List (D aC)):Prop:=∀i,i<l.length->(nth aC l i).2.1.length<=1000/\(nth aC l i).2.2.1.length<=1000
def jO(f:dA)(x:Sh)(s:aD):Sh×Int:=if(dQ (aL f) s).2=0 then kv x (dQ (aL f) s).1 else(x,(dQ (aL f) s).2)
def QH{f:dA}{x:Sh}{s:aD}(h:¬(dQ (aL f) s).2=0):jO f x s=(x,(dQ (aL f) s).2):=by unfold jO;rw[if_neg h]
def NK{f:dA}{x:Sh}{s:aD}(h:(dQ (aL f) s).2=0):jO f x s=kv x (dQ (aL f) s).1:=by unfold jO;rw[if_pos h]
def NL{f:dA}(g:gI f){s:aD}(h:(dQ (aL f) s).2=0):(dQ (aL f) s).1.2.1.length<=1000000/\(dQ (aL f) s).1.2.2.1.length<=1000000:=by
 have:=lF (Fb g (root:=s) (aQ.2 h)).2.2.2;have h1:=this.p6;have h2:=this.Cm;exact⟨by omega,by omega⟩
def QI{l:List (D aC)}(h:vC l){s:aD}(hs:(fK l s).2=true):(fK l s).1.2.1.length<=1000:=by
 obtain⟨j,hj,e⟩:=gR (t:=aC) (Fe hs).1;rw[<-e];exact(h j hj).1
def vC.wide{l:List (D aC)}(h:vC l):∀i,i<l.length->(nth aC l i).2.1.length<=1000000/\(nth aC l i).2.2.1.length<=1000000:=fun i hi=>by
 have:=h i hi;omega
def QJ{f:dA}{l:List (D aC)}{s:aD}(h1:(fK l s).2=true)(h2:fM (aL f) (fK l s).1=true) :
  kU f l s=((kz (aL f) (fK l s).1).1,decide ((kz (aL f) (fK l s).1).2=0),(kz (aL f) (fK l s).1).2):=by unfold kU;rw[if_pos ⟨h1,h2⟩]
def xN{f:dA}{l:List (D aC)}{s:aD}(h:¬((fK l s).2=true/\fM (aL f) (fK l s).1=true)):kU f l s=((gH (aL f) s).1,false,(gH (aL f) s).2):=by unfold kU;rw[if_neg h]
def Vl(n:Int):(aI n).isNil=decide (n=0):=by
 cases h:(aI n).isNil with
 |true=>rw[decide_eq_true (aQ.1 h)]
 |false=>rw[decide_eq_false fun e=>by rw[aQ.2 e]at h;cases h]
def fG.Wy{x:Sh}{m:List (D aC)}{k:Nat}(h:fG x m k):vC x.1.2.1:=fun i hi=>by
 obtain⟨r,h1,h2,h3⟩:=h.at;rw[h.list]at hi ⊢;have h:=lF (h3.tu _ (dV (t:=aC) hi));have h1:=h.p6;have h2:=h.Cm;exact⟨by omega,by omega⟩
def NM{f:dA}{x:Sh}{k:Nat}(g:gI f)(h:fG x x.1.2.1 k)(hk:k<=1000)(s:aD):(jO f x s).2=(se f x.1.2.1 s).2/\fG (jO f x s).1 (se f x.1.2.1 s).1 (k+1):=by
 unfold jO se;by_cases c:(dQ (aL f) s).2=0
 ·rw[if_pos c,if_pos c];exact Iz h hk _
 ·rw[if_neg c,if_neg c];exact⟨rfl,h.next⟩
def vD:Sh:=(((dP jl.2).1.1,(dP jl.2).1.2,()),jl.2)
def z6:vD=jl:=ai jE.again rfl
def vW:fG vD [] 0:=by rw[z6];exact jE
def CE{d:Dk}(h:(bP d).2=0):(bP d).1.2.1=(bP d).1.2.2.1:=by
 by_cases c:(stepOf d).2=0
 ·rw[Ep c]
 ·rw[zB c]at h;exact absurd h c
def IB:jl.2.2.1=jl.2.2.2.1:=by
 have e:iR (qV 112)=gF (qV 112):=ma _;have h0:(gF (qV 112)).2=0:=by rw[<-e];exact(qP (sd (aw _))).1
 show(iR (qV 112)).1.2.1=(iR (qV 112)).1.2.2.1;rw[e];unfold gF at h0 ⊢;split at h0
 ·cases h0
 ·split at h0
  ·rename_i c;exact absurd h0 c
  ·split at h0
   ·rename_i c;exact absurd h0 c
   ·split at h0
    ·rename_i c;exact absurd h0 c
    ·rename_i c1 c2 c3 c4
     rw[if_neg c1,if_neg c2,if_neg c3,if_neg c4];exact CE h0
def Sync(x:Sh):Prop:=x.2.2.1=x.2.2.2.1
def NN{d:Dk}{r:Int}{l:List (D aC)}(h:(eJ d r l).2=0):(eJ d r l).1.2.1=(eJ d r l).1.2.2.1:=by
 unfold eJ at h ⊢;split at h
 ·rename_i c;exact absurd h c
 ·split at h
  ·rename_i c;exact absurd h c
  ·split at h
   ·rename_i c;exact absurd h c
   ·split at h
    ·rename_i c;exact absurd h c
    ·rename_i c1 c2 c3 c4
     rw[if_neg c1,if_neg c2,if_neg c3,if_neg c4];exact CE h
def CF{x:Sh}{l:List (D aC)}(h:(qu x l).2=0):Sync (qu x l).1:=NN (d:=x.2) h
def Tu{x:Sh}{m:List (D aC)}{k:Nat}(h:fG x m k)(hk:k<=1000)(hs:Sync x)(e:D aC):Sync (kv x e).1:=by
 have hb:=(Iz h hk e).1;have hl:=h.list;unfold kv at hb ⊢;unfold oS at hb;rw[hl]at hb ⊢;have:=vR e;by_cases hf:bC e=0
 ·rw[if_neg (not_not_intro hf)]at hb ⊢
  rw[if_neg (by omega)]at hb;cases hp:qv m e with
  |none=>exact hs
  |some l=>rw[hp]at hb;exact CF hb
 ·rw[if_pos hf];exact hs
def QK{x:Sh}{m:List (D aC)}{k:Nat}(h:fG x m k)(hk:k<=1000)(hs:Sync x)(s:aD):Sync (gL x s).1:=by
 have hb:=(E8 h hk s).1;have hl:=h.list;rcases yC m s with⟨i,i1,i2,i3,i4⟩|⟨j1,j2⟩
 ·have e:=A4 h.names i1 i3
  have el:(m.eraseIdx i).length=m.length-1:=by rw[ck,if_pos i1]
  have ed:nO m s=(m.eraseIdx i,0):=by unfold nO;rw[if_neg (by rw[e,el];omega),e]
  rw[ed]at hb;unfold gL at hb ⊢;rw[if_pos (by rw[hl,i4];omega)]at hb ⊢;exact CF hb
 ·unfold gL
  rw[if_neg (by rw[hl,j2];omega)];exact hs
def gU.done{l:List (D aC)}:∀(a:List (D dB)) {f:dA},gU f l->gU (js f a) l
 |[],_,h=>h
 |a :: r,f,h=>by
  have:gU (mH f a) l:=by
   unfold mH;split
   ·exact h.write _ _
   ·split
    ·exact h.remove _
    ·exact h
  exact gU.done r this
structure nq (f:dA) (x:Sh) (k:Nat):Prop where
 kept:gU f x.1.2.1
 nP:fG x x.1.2.1 k
 sync:Sync x
def nq.next{f:dA}{x:Sh}{k:Nat}(h:nq f x k):nq f x (k+1):=⟨h.kept,h.nP.next,h.sync⟩
def nq.done{f:dA}{x:Sh}{k:Nat}(h:nq f x k)(a:List (D dB)):nq (js f a) x (k+1):=⟨h.kept.done a,h.nP.next,h.sync⟩
def nq.build{f:dA}{x:Sh}{k:Nat}(h:nq f x k)(hk:k<=1000)(s:aD):nq f (jO f x s).1 (k+1)/\(jO f x s).2=(se f x.1.2.1 s).2/\(jO f x s).1.1.2.1=(se f x.1.2.1 s).1:=by
 have hb:=NM h.kept.gK h.nP hk s;refine⟨⟨?_,hb.2.self,?_⟩,hb.1,hb.2.list⟩
 ·rw[hb.2.list];exact h.kept.build s
 ·unfold jO
  split
  ·exact Tu h.nP hk h.sync _
  ·exact h.sync
def nq.drop{f:dA}{x:Sh}{k:Nat}(h:nq f x k)(hk:k<=1000)(s:aD):nq f (gL x s).1 (k+1)/\(gL x s).2=(nO x.1.2.1 s).2/\(gL x s).1.1.2.1=(nO x.1.2.1 s).1:=by
 have hb:=E8 h.nP hk s;refine⟨⟨?_,hb.2.self,QK h.nP hk h.sync s⟩,hb.1,hb.2.list⟩;rw[hb.2.list];exact h.kept.drop s
def nq.mJ{f:dA}{x:Sh}{k:Nat}(h:nq f x k):f.2.1.1.length<=6:=h.kept.gK.st.pre.1
def Tv{rd:Rd}{s:aD}{n:Int}(h:rd s=(AT,n,0)):gH rd s=([(s,0,[3],())],0):=by
 refine PT (PU h WZ rfl) (bs:=[0]) (ps:=[(0,0,3,())]) (w:=[[3]]) rfl ?_ rfl rfl ?_ rfl
 ·rw[Dg rfl (by
   intro i hi;obtain rfl:i=0:=by simp at hi;omega
   simp[nth])]
  have h1:gT [Wu] [0] 0 (0,1,3,[],false,())=(3,.nil):=(AG rfl).trans (Dh (by decide) rfl (by decide));simp[nS,og,oB,h1,aM.isNil]
 ·intro i hi
  obtain rfl:i=0:=by simp at hi;omega
  unfold tW;decide
def QL:dA:=(cJ qq [122,122] AT).1
def IC:dA:=(fE QL [122,122]).1
def Vm:aL QL [122,122]=(AT,1,0):=by decide
def Vn:gH (aL QL) [122,122]=([([122,122],0,[3],())],0):=Tv Vm
def Tw:gI QL:=gI.new.write _ _
def Wz:dA:=((0+1,()),(eS cI [] [122,122] (AT,0+1,()) 0,mQ cI [] [122,122] 0,()),())
def UA:QL=Wz:=rfl
def Vo:Wz.2.1.1.length<=6:=by rw[<-UA];exact Tw.st.pre.1
def DB:kU Wz vD.1.2.1 [122,122]=([([122,122],0,[3],())],false,0):=by
 rw[show vD.1.2.1=[]from vW.list,xN (fun z=>by rw[Iq (o3 _)]at z;exact Bool.noConfusion z.1),<-UA,Vn]
def Vp:gU IC []:=(gU.new.write _ _).remove _
def Vq:nq IC jl 0:=⟨Vp,jE,IB⟩
end Go.Mrl

namespace Go.Vg
open Go
def Kc{H:Type}{enc:TypeId×Value->H}{a:Assume}{C:Checked}{os:Os}{f:FuncId}{fn:Func}{s:ChangeSpec}{conds:List PathCond}{apart fresh handsOn again:Bool}{X:World->Array Value->Prop}
  (hX:∀(w w':World) (args:Array Value),w.heap=w'.heap->X w args->X w' args)
  (own:ownKnob C.prog.godebug=none)(started:os.Started)(noInit:C.prog.inits.idxOf? f=none)(hfn:C.prog.funcs[f]?=some fn)
  (witness:∃(w:World) (tape:Tape) (i:Input),w.os=os/\(w.forCall tape i).Shaped C.prog/\i.vars=[]/\Input.okWide C.prog (w.forCall tape i) .any w.heap.size f i/\
   ((s.pre enc C.prog fn conds apart (w.forCall tape i).memory i.args/\X (w.forCall tape i).memory i.args)/\sizedMet enc C.prog fn (cm s) apart (w.forCall tape i).memory i.args)/\a.holds C.prog (lone (Frame.enter C.prog f i.args .normal) [] (w.forCall tape i)))
  (contract:∀(W:World) (base:Nat) (args:Array Value) (ds gs:List (DataW H)) (before:List MemPlace),
   (∀(j:Nat) t v,fn.params[j]?=some t->args[j]?=some v->Value.okWide C.prog W .any base t v)->
   DataW.Whole enc C.prog fn.params.toList s.vars apart W args.toList ds gs before->
   X W args->W.ShapedOpen C.prog->
   Calls C.prog f args W fun e W'=>∃v,e=.returned v/\s.post enc C.prog fn apart fresh handsOn again W args v W') :
  ReturnsInHanded a C os f .any (fun w args=>(s.pre enc C.prog fn conds apart w args/\X w args)/\sizedMet enc C.prog fn (cm s) apart w args) (s.post enc C.prog fn apart fresh handsOn again):=by
 refine returnsInHanded_of_calls own started noInit witness ?_;intro w tape i _ hsh _ hok hpre hholds;obtain⟨_,_,_,fn',hfn',_,_,_,_,hval⟩:=hok;have e:fn'=fn:=ar (hfn'.symm.trans hfn);subst e;obtain⟨⟨⟨ds,gs,before,hw,hc⟩,hx⟩,hz⟩:=hpre;have hw':=DataW.Whole.of_heap (w':=w.forCall tape i) (by rfl) hw;refine(contract (w.forCall tape i) w.heap.size i.args ds gs before hval hw' (hX _ _ _ (by rfl) hx) hsh).mono fun e W' ⟨v,he,hp⟩ =>?_
 subst he;exact ChangeSpec.post_blind hp
def ID{P:Program}{w:World}{g:Nat}{t:TypeId}{zero:Array Value}(h:w.ShapedOpen P)(hg:g<P.globals.size)
  (h0:((begin P (fun _ _=>0) default).world.heap[g]?).bind Obj.row?=some (zero,t))(hz:zero.size=1)
  (hb:P.buildable t=true)(hc:P.cellTypes P.depth t=some [t])(hu:P.underlying t=some (.int .i64)):∃m,w.cell? ⟨g,0,none⟩=some (.int .i64 m):=by
 obtain⟨cs,hh,hs,hr⟩:=h.1 g zero t hg h0;obtain⟨ts,hts,_,hall⟩:=hr hb;rw[hc]at hts;cases hts;have h1:0<cs.size:=by omega
 obtain⟨u,hu',hok⟩:=hall 0 cs[0] (by simp[h1]);have:u=t:=by simpa using hu'.symm
 subst this;have hcell:w.cell? ⟨g,0,none⟩=some cs[0]:=by simp[World.cell?,hh,h1]
 rw[hcell];unfold Cell.ok at hok;rw[hu]at hok;cases hv:cs[0] <;> rw[hv]at hok <;> first|exact hok.elim|(obtain⟨rfl,_⟩:=hok;exact⟨_,rfl⟩)|simp at hok
def UB:Option TypeDesc->Bool
 |some (.interface _)=>true
 |_=>false
def uk{P:Program}{W:World}{name nm:String}{d:DataW Unit}{g:Nat}{t:TypeId}
  (hg:P.globalNamed name=some g)(hty:(P.globals[g]?).map (·.type)=some t)(hi:UB (P.underlying t)=true)
  (h:Lib.VarReads P W name (.iface nm d)):∃ev,W.cell? ⟨g,0,none⟩=some ev/\(ev=.nilIface\/∃te pe,ev=.iface te pe):=by
 obtain⟨g',t',cs,fuel,p,hg',ht',hvar,hd⟩:=h;obtain rfl:=ar (hg.symm.trans hg');obtain rfl:=ar (hty.symm.trans ht');have hc:=World.var?_cell hg hvar 0;obtain⟨ms,hu⟩:∃ms,P.underlying t=some (.interface ms):=by
  unfold UB at hi;split at hi
  ·rename_i ms hm;exact⟨ms,hm⟩
  ·cases hi
 cases fuel with
 |zero=>simp[b5]at hd
 |succ n=>
  cases hl:cs.toList with
  |nil=>rw[hl]at hd;simp[b5,hu]at hd
  |cons v r=>
   have h0:cs[0]?=some v:=by rw[<-Array.getElem?_toList,hl];rfl
   rw[h0]at hc;refine⟨v,hc,?_⟩;rw[hl]at hd;cases v <;> first|exact .inl rfl|exact .inr ⟨_,_,rfl⟩|(simp[b5,hu]at hd)
def IE{P:Program}{W:World}{name:String}{k:IntKind}{zs:List Int}{g:Nat}{t e:TypeId}{n:Nat}
  (hg:P.globalNamed name=some g)(hty:(P.globals[g]?).map (·.type)=some t)(ht:P.underlying t=some (.array n e))(he:P.underlying e=some (.int k))(hce:P.cellsOf e=1)(hct:P.cellsOf t=n)
  (h:Lib.VarReads P W name (Lib.tabData k zs)):Lib.TabIs P W name k zs:=by
 obtain⟨g',t',cs,fuel,p,hg',ht',hvar,hd⟩:=h;obtain rfl:=ar (hg.symm.trans hg');obtain rfl:=ar (hty.symm.trans ht');unfold Lib.TabIs;rw[hvar,<-Lib.cells_of_tab ht he hce hct hd]
end Go.Vg

