/- A part of the proof that the law TopFallCard holds of the given program: facts that are used there. -/
import Derived.Test.YtgokjhhcfemnhadGreatDoorPart2
import Derived.Handed
import Derived.Clock
import Derived.Lib.LaidTab
import Derived.Lib.LaidU8
import Derived.Lay
set_option linter.unusedSimpArgs false
set_option linter.unusedVariables false
set_option linter.defProp false
noncomputable section
open List renaming length_set->ab,length_append->ad,length_cons->ae,take->af,drop->ag,length_take->al,mem_map->ar,mem_singleton->au,range->ba,length_map->bb,map_cons->bc,length_range->bd,mem_append->bj,length_nil->bp,cons_append->bq,length_drop->bw,filter_append->bz,length_singleton->b6,filter_cons->b7,replicate->b8,nodup_cons->b9,mem_cons->cf,nil_append->cg,take_length->ck,append_assoc->cm,filter_eq_self->cn,ext_getElem?->cq,mem_or_eq_of_mem_set->cr,nodup_nil->ct
open Int renaming toNat_natCast->ah,le_refl->ao,tmod_eq_emod_of_nonneg->av,toNat->aw,le_trans->ax,ofNat_le->cc,lt_of_lt_of_le->cu
open Go.Lib renaming splitK->ai,count_one->bg,count->bu,index->b4
open Prod renaming ext->aj
open Nat renaming le_refl->ak,lt_of_lt_of_le->aq,le_trans->a8,or_lt_two_pow->bf,mul_le_mul_right->bh,not_lt_zero->bk,zero_le->br,add_zero->bt,mul_lt_mul_of_pos_right->bx,add_mul->b5,min_le_left->cp
open Option.some renaming inj->ay
open Go.IntKind renaming wrap->az,i64->a7
open BitVec renaming ofInt->bm
open Classical renaming not_not->bo,choose->ch,choose_spec->cj
open Go.DataW renaming trod->cd
open Go.OpenSpec renaming ofChange->cw
namespace Go.Mrl
open Go.Vg
def eJ(l:List (D aC))(s:aD):Int:=match l.findIdx? (fun e=>decide (e.1=s))with
 |some i=>(i:Int)
 |none =>-1
def rA{l:List (D aC)}{s:aD}(h:∀j,j<l.length->(nth aC l j).1≠s):eJ l s= -1:=by
 unfold eJ;rw[List.findIdx?_eq_none_iff.2 fun e he=>by
  obtain⟨j,hj,rfl⟩:=gV (t:=aC) he;exact decide_eq_false (h j hj)]
def Bb{l:List (D aC)}{s:aD}{i:Nat}(hi:i<l.length)(h:∀j,j<i->(nth aC l j).1≠s)(he:(nth aC l i).1=s):eJ l s=(i:Int):=by
 unfold eJ;have hn:∀j (hj:j<l.length),l[j]=nth aC l j:=fun j hj=>by unfold nth;rw[List.getD_eq_getElem?_getD,List.getElem?_eq_getElem hj];rfl
 rw[(List.findIdx?_eq_some_iff_getElem (xs:=l) (p:=fun e=>decide (e.1=s)) (i:=i)).2 ⟨hi,by rw[hn i hi];exact decide_eq_true he,fun j hj=>by
  rw[hn j (by omega)];simp only[decide_eq_true_eq];exact h j hj⟩]
def vJ(n:Int):Int:=az .u8 n
def jW(n:Int):aD:=bytesOf [vJ n,vJ (n.fdiv (2^8)),vJ (n.fdiv (2^16)),vJ (n.fdiv (2^24))]
def dU(a b:Int):aD:=[83]++jW a++jW b
def tc(n:Int):(jW n).length=4:=by simp[jW,bytesOf]
def qU(a b:Int):(dU a b).length=9:=by simp[dU,tc]
def QD(a b:Int):Int:=az .i64 (bm a7.bits a ||| bm a7.bits b).toNat
def QF(a:Int)(n:Nat):Int:=az .i64 (a*2^n)
def iW(s:aD):Int:=QD (QD (QD ((dW s 0).toNat:Int) (QF ((dW s 1).toNat:Int) 8)) (QF ((dW s 2).toNat:Int) 16)) (QF ((dW s 3).toNat:Int) 24)
def lJ:List (D aC)->Int
 |[]=>0
 |e :: r=>if bC e≠0 then bC e else lJ r
def dF(l:List (D aC)):aD:=l.flatMap fU
def dV(l:List (D aC)):aD×aK:=if lJ l≠0 then([],aI (lJ l))else(dF l,.nil)
def LL:∀{l:List (D aC)} {i:Nat},(∀j,j<i->bC (nth aC l j)=0)->i<l.length->bC (nth aC l i)≠0->lJ l=bC (nth aC l i)
 |[],i,_,h,_=>by simp at h
 |e :: r,0,_,_,h=>by unfold lJ;rw[if_pos (show bC e≠0 from h)];rfl
 |e :: r,i+1,h,h1,h2=>by
  unfold lJ;rw[if_neg (by have:=h 0 (by omega);exact not_not_intro this)];exact LL (l:=r) (i:=i) (fun j hj=>h (j+1) (by omega)) (by simpa using h1) h2
def Fj:∀{l:List (D aC)},(∀j,j<l.length->bC (nth aC l j)=0)->lJ l=0
 |[],_=>rfl
 |e :: r,h=>by
  unfold lJ;rw[if_neg (by have:=h 0 (by simp);exact not_not_intro this)];exact Fj (l:=r) fun j hj=>h (j+1) (by simp;omega)
def IH:∀{l:List (D aC)},lJ l=0->∀e∈l,bC e=0
 |[],_,_,h=>by simp at h
 |e :: r,hb,x,hx=>by
  unfold lJ at hb;split at hb
  ·rename_i h;exact absurd hb h
  ·rename_i h
   rcases cf.1 hx with rfl|hx
   ·exact bo.1 h
   ·exact IH hb x hx
def QG{l:List (D aC)}{i:Nat}(h:i<l.length):dF (l.take (i+1))=dF (l.take i)++fU (nth aC l i):=by
 unfold dF;rw[iM (t:=aC) h];simp
def QH{e:D aC}(h:bC e=0):(fU e).length<=2753:=by
 have:=(lH h).AU e.2.2.1.length;unfold fU ry;rw[ad];simp;omega
def Bc:∀{l:List (D aC)},(∀e∈l,bC e=0)->(dF l).length<=2753*l.length
 |[],_=>by simp[dF]
 |e :: r,h=>by
  have h1:=QH (h e (by simp));have h2:=Bc (l:=r) fun x hx=>h x (by simp[hx])
  have h3:dF (e :: r)=fU e++dF r:=rfl;rw[h3,ad,ae];omega
def QI{l:List (D aC)}{i:Nat}(hq:∀j,j<i->bC (nth aC l j)=0)(hi:i<l.length)(h:(dK (nth aC l i)).2.isNil=false):([],(dK (nth aC l i)).2)=dV l:=by
 have hf:bC (nth aC l i)≠0:=fun e=>by rw[IC,e]at h;cases h
 unfold dV;rw[LL hq hi hf,if_pos hf,IC]
def TG{l:List (D aC)}{i:Nat}(hq:∀j,j<i->bC (nth aC l j)=0)(hi:¬i<l.length):(dF (l.take i),aK.nil)=dV l:=by
 unfold dV;rw[Fj fun j hj=>hq j (by omega),if_neg (by decide),List.take_of_length_le (by omega)]
def QJ{l:List (D aC)}{i:Nat}(h:i<l.length)(ht:(dK (nth aC l i)).2.isNil=true):dF (l.take (i+1))=dF (l.take i)++(dK (nth aC l i)).1:=by
 rw[QG h,(vG ht).2]
def QK{l:List (D aC)}{i:Nat}(hl:l.length<=100)(hi:i<l.length)(hq:∀j,j<i->bC (nth aC l j)=0):(dF (l.take i)).length<=275300:=by
 have h1:∀e∈l.take i,bC e=0:=fun e he=>by
  obtain⟨j,hj,rfl⟩:=gV (t:=aC) he;rw[al]at hj;rw[AP (t:=aC) (by omega)];exact hq j (by omega)
 have h2:=Bc h1;rw[al]at h2;omega
def jZ(bs:List Int):Dk->Int->List Nat->Dk×Int
 |d,_,[]=>(d,0)
 |d,s,i :: r=>if(bK d s (bytesOf (dR (t:=.int .u8) bs 64 i))).2=0 then jZ bs (bK d s (bytesOf (dR (t:=.int .u8) bs 64 i))).1 (s+1) r else bK d s (bytesOf (dR (t:=.int .u8) bs 64 i))
def II(bs:List Int)(i:Nat):∀(pre:List Nat) (d:Dk) (s:Int),(jZ bs d s pre).2=0->
  jZ bs d s (pre++[i])=bK (jZ bs d s pre).1 (s+pre.length) (bytesOf (dR (t:=.int .u8) bs 64 i))
 |[],d,s,_=>by
  simp only[cg,jZ,bp];rw[show s+((0:Nat):Int)=s by omega];split
  ·rename_i h
   exact aj rfl h.symm
  ·rfl
 |j :: r,d,s,h=>by
  simp only[bq,jZ]at h ⊢;split
  ·rename_i h1
   rw[if_pos h1]at h;rw[II bs i r _ _ h,ae];congr 1;omega
  ·rename_i h1
   rw[if_neg h1]at h;exact absurd h h1
structure dD (d:Dk) (m:Nat):Prop where
 kC : -1<=(d.1.1:Int)
 nT:d.2.2.2.1.length<=m
 len:d.2.1.length=d.2.2.1.length
def dD.mono{d:Dk}{m m':Nat}(h:dD d m)(hm:m<=m'):dD d m':=⟨h.kC,a8 h.nT hm,h.len⟩
def tf{d:Dk}{m:Nat}(h:dD d m):dD (stepOf d).1 m:=by
 unfold stepOf;split
 ·exact h
 ·split
  ·exact⟨ao _,h.nT,h.len⟩
  ·refine⟨?_,h.nT,h.len⟩
   have:=h.kC;show -1<=(if 0<d.1.1 then d.1.1-1 else d.1.1);split <;> omega
def mc{d:Dk}{m:Nat}(h:dD d m)(a:Int)(s:aD):dD (bK d a s).1 (m+1):=by
 unfold bK;split
 ·exact h.mono (by omega)
 ·split
  ·refine⟨(tf h).kC,?_,?_⟩
   ·show(d.2.2.2.1++[(a,cV s,())]).length<=m+1
    rw[ad];have:=h.nT;simp;omega
   ·show d.2.1.length=(d.2.2.1.set a.toNat (cV s)).length
    rw[ab];exact h.len
  ·exact(tf h).mono (by omega)
def rB{d:Dk}{m:Nat}(h:dD d m):dD (bL d).1 m:=by
 unfold bL;split
 ·exact⟨(tf h).kC,br _,rfl⟩
 ·exact tf h
def IJ(bs:List Int):∀(pre:List Nat) {d:Dk} {s:Int} {m:Nat},dD d m->dD (jZ bs d s pre).1 (m+pre.length)
 |[],_,_,_,h=>h
 |i :: r,d,s,m,h=>by
  simp only[jZ];split
  ·exact(IJ bs r (mc h _ _)).mono (by simp;omega)
  ·exact(mc h _ _).mono (by simp)
def gR(l:List (D aC))(r:Int)(d:Dk)(pre:List Nat):Dk×Int:=jZ (bE (dV l).1) d (2+(r+1).tmod 2*55) pre
def eB(l:List (D aC)):List Nat:=ba (eY (bE (dV l).1).length 64)
def uC(l:List (D aC))(r:Int)(d:Dk):Dk×Int:=bL (gR l r d (eB l)).1
def qV(l:List (D aC))(r:Int)(d:Dk):Dk×Int:=bK (uC l r d).1 ((r+1).tmod 2) (dU (r+1) (dV l).1.length)
def cR(d:Dk)(r:Int)(l:List (D aC)):Dk×Int:=
 if lJ l≠0 then(d,lJ l)
 else if(gR l r d (eB l)).2≠0 then gR l r d (eB l)
 else if(uC l r d).2≠0 then uC l r d
 else if(qV l r d).2≠0 then qV l r d
 else bL (qV l r d).1
def U2{r:Int}(h:0<=r):0<=(r+1).tmod 2/\(r+1).tmod 2<=1:=by rw[av (by omega)];omega
def Fk{l:List (D aC)}(h:l.length<=100):(dV l).1.length<=275300:=by
 unfold dV;split
 ·simp
 ·rename_i hb
  have:=Bc (IH (bo.1 hb));show(dF l).length<=275300;omega
def qW{l:List (D aC)}(h:(dV l).2.isNil=true):(dV l).2=.nil/\lJ l=0:=by
 unfold dV at h ⊢;split at h
 ·rename_i hb;exact absurd (aQ.1 h) hb
 ·rename_i hb;rw[if_neg hb];exact⟨rfl,bo.1 hb⟩
def IK{l:List (D aC)}{r:Int}{d:Dk}(h:dD d 1000000)(pre:List Nat):dD (gR l r d pre).1 (1000000+pre.length):=IJ _ pre h
def vK{l:List (D aC)}(h:l.length<=100):eY (bE (dV l).1).length 64<=5000:=by
 have:=Fk h;unfold eY;rw[bE,bb];omega
def QL{l:List (D aC)}(d:Dk)(r:Int)(h:(dV l).2.isNil=false):cR d r l=(d,lJ l)/\lJ l≠0/\(dV l).2=aI (lJ l):=by
 have hb:lJ l≠0:=fun e=>by unfold dV at h;rw[if_neg (not_not_intro e)]at h;cases h
 exact⟨by unfold cR;rw[if_pos hb],hb,by unfold dV;rw[if_pos hb]⟩
def sr{l o:List (D aC)}{d:Dk}{r:Int}{z:Dk×Int}(hk:cR d r l=z)(hz:z.2≠0) :
  (((r,o,()),z.1):(Int×List (D aC)×Unit)×Dk)=(if(cR d r l).2=0 then(r+1,l,())else(r,o,()),(cR d r l).1)/\(aI z.2,())=(aI (cR d r l).2,()):=by
 rw[hk,if_neg hz];exact⟨rfl,rfl⟩
def QM{l o:List (D aC)}{d:Dk}{r:Int}{z:Dk×Int}(hk:cR d r l=z)(hz:z.2=0) :
  (((r+1,l,()),z.1):(Int×List (D aC)×Unit)×Dk)=(if(cR d r l).2=0 then(r+1,l,())else(r,o,()),(cR d r l).1)/\(aI z.2,())=(aI (cR d r l).2,()):=by
 rw[hk,if_pos hz];exact⟨rfl,rfl⟩
def IL(bs:List Int)(i:Nat)(rest:List Nat):∀(pre:List Nat) (d:Dk) (s:Int),(jZ bs d s pre).2=0->(bK (jZ bs d s pre).1 (s+pre.length) (bytesOf (dR (t:=.int .u8) bs 64 i))).2≠0->
  jZ bs d s (pre++i :: rest)=bK (jZ bs d s pre).1 (s+pre.length) (bytesOf (dR (t:=.int .u8) bs 64 i))
 |[],d,s,_,h=>by
  simp only[cg,jZ,bp]at h ⊢;rw[show s+((0:Nat):Int)=s by omega]at h ⊢;rw[if_neg h]
 |j :: r,d,s,h,h2=>by
  simp only[bq,jZ]at h h2 ⊢;by_cases h1:(bK d s (bytesOf (dR (t:=.int .u8) bs 64 j))).2=0
  ·simp only[if_pos h1]at h h2 ⊢
   rw[ae,show s+((r.length+1:Nat):Int)=s+1+(r.length:Int) by omega]at h2 ⊢;exact IL bs i rest r _ _ h h2
  ·rw[if_neg h1]at h
   exact absurd h h1
def TH{i m:Nat}(h:i<m):∃rest,ba m=ba i++i :: rest:=by
 obtain⟨b,rfl⟩:∃b,m=i+(b+1):=⟨m-i-1,by omega⟩
 rw[List.range_add,List.range_succ_eq_map];exact⟨_,by simp only[bc,bt];rfl⟩
def NY{l:List (D aC)}{d:Dk}{r:Int}{pre:List Nat}{i:Nat}(h0:(dV l).2.isNil=true)(hp:(gR l r d pre).2=0)(e:pre=ba i)(hi:pre.length<eY (bE (dV l).1).length 64)
  (hw:(bK (gR l r d pre).1 (2+(r+1).tmod 2*55+(pre.length:Int)) (bytesOf (dR (t:=.int .u8) (bE (dV l).1) 64 i))).2≠0) :
  cR d r l=bK (gR l r d pre).1 (2+(r+1).tmod 2*55+(pre.length:Int)) (bytesOf (dR (t:=.int .u8) (bE (dV l).1) 64 i)):=by
 have hil:i<eY (bE (dV l).1).length 64:=by rw[e,bd]at hi;exact hi
 obtain⟨rest,hr⟩:=TH hil;have hall:gR l r d (eB l)=bK (gR l r d pre).1 (2+(r+1).tmod 2*55+(pre.length:Int)) (bytesOf (dR (t:=.int .u8) (bE (dV l).1) 64 i)):=by
  unfold gR eB;rw[hr,<-e];exact IL _ i rest pre d _ hp hw
 unfold cR;rw[if_neg (not_not_intro (qW h0).2),hall,if_pos hw]
def IM{l:List (D aC)}{d:Dk}{r:Int}{pre:List Nat}(i:Nat)(hp:(gR l r d pre).2=0) :
  gR l r d (pre++[i])=bK (gR l r d pre).1 (2+(r+1).tmod 2*55+(pre.length:Int)) (bytesOf (dR (t:=.int .u8) (bE (dV l).1) 64 i)):=II _ i pre d _ hp
def VJ{l:List (D aC)}{d:Dk}{r:Int}(h0:(dV l).2.isNil=true)(hp:(gR l r d (eB l)).2=0)(hf:(uC l r d).2≠0):cR d r l=uC l r d:=by
 unfold cR;rw[if_neg (not_not_intro (qW h0).2),if_neg (not_not_intro hp),if_pos hf]
def VK{l:List (D aC)}{d:Dk}{r:Int}(h0:(dV l).2.isNil=true)(hp:(gR l r d (eB l)).2=0)(hf:(uC l r d).2=0)(hh:(qV l r d).2≠0):cR d r l=qV l r d:=by
 unfold cR;rw[if_neg (not_not_intro (qW h0).2),if_neg (not_not_intro hp),if_neg (not_not_intro hf),if_pos hh]
def Fl{l:List (D aC)}{d:Dk}{r:Int}(h0:(dV l).2.isNil=true)(hp:(gR l r d (eB l)).2=0)(hf:(uC l r d).2=0)(hh:(qV l r d).2=0):cR d r l=bL (qV l r d).1:=by
 unfold cR;rw[if_neg (not_not_intro (qW h0).2),if_neg (not_not_intro hp),if_neg (not_not_intro hf),if_neg (not_not_intro hh)]
def Bd{l:List (D aC)}{r:Int}{d:Dk}(hl:l.length<=100)(h:dD d 1000000):dD (gR l r d (eB l)).1 1005000:=
 (IK h (eB l)).mono (by have:=vK hl;unfold eB;rw[bd];omega)
abbrev Sh:=(Int×List (D aC)×Unit)×Dk
def pN(x:Sh)(l:List (D aC)):Sh×Int:=((if(cR x.2 x.1.1 l).2=0 then(x.1.1+1,l,())else x.1,(cR x.2 x.1.1 l).1),(cR x.2 x.1.1 l).2)
def rC(l:List (D aC))(e:D aC):Option (List (D aC)):=if 0<=eJ l e.1 then some (l.set (eJ l e.1).toNat e)else if l.length=3 then none else some (l++[e])
def ky(x:Sh)(e:D aC):Sh×Int:=
 if bC e≠0 then(x,bC e)else match rC x.1.2.1 e with
  |none=>(x,2)
  |some l=>pN x l
def fO(l:List (D aC))(s:aD):D aC×Bool:=if 0<=eJ l s then(nth aC l (eJ l s).toNat,true)else(bY aC,false)
def gC(x:Sh)(s:aD):Sh×Int:=
 if 0<=eJ x.1.2.1 s then pN x (x.1.2.1.eraseIdx (eJ x.1.2.1 s).toNat)else(x,5)
def qg(l:List (D aC))(s:aD):eJ l s<l.length/\-1<=eJ l s:=by
 unfold eJ;split
 ·rename_i i h
  obtain⟨h1,_⟩:=List.findIdx?_eq_some_iff_getElem.1 h;omega
 ·omega
def Fm{x:Sh}{e:D aC}(h:bC e≠0):ky x e=(x,bC e):=by unfold ky;rw[if_pos h]
def LM{x:Sh}{e:D aC}(h:bC e=0)(hi:0<=eJ x.1.2.1 e.1):ky x e=pN x (x.1.2.1.set (eJ x.1.2.1 e.1).toNat e):=by
 unfold ky rC;rw[if_neg (not_not_intro h),if_pos hi]
def IN{x:Sh}{e:D aC}(h:bC e=0)(hi:¬0<=eJ x.1.2.1 e.1)(hl:(x.1.2.1.length:Int)=3):ky x e=(x,2):=by
 unfold ky rC;rw[if_neg (not_not_intro h),if_neg hi,if_pos (by omega)]
def DN{x:Sh}{e:D aC}(h:bC e=0)(hi:¬0<=eJ x.1.2.1 e.1)(hl:¬(x.1.2.1.length:Int)=3):ky x e=pN x (x.1.2.1++[e]):=by
 unfold ky rC;rw[if_neg (not_not_intro h),if_neg hi,if_neg (by omega)]
def xS{α:Type}{o:List α}{b:Bool}(q:0<o.length->b=false)(h:b=true):o=[]:=by
 cases o with
 |nil=>rfl
 |cons a t=>rw[q (by simp)]at h;cases h
def LN{l:List (D aC)}{s:aD}(h:0<=eJ l s):fO l s=(nth aC l (eJ l s).toNat,true):=by unfold fO;rw[if_pos h]
def IP{l:List (D aC)}{s:aD}(h:¬0<=eJ l s):fO l s=(bY aC,false):=by unfold fO;rw[if_neg h]
def o5(s:aD):¬0<=eJ [] s:=fun h=>absurd (show(0:Int)<=-1 from h) (by decide)
def oT(l:List (D aC))(e:D aC):List (D aC)×Int:=if bC e > 0 then(l,bC e)else match rC l e with
 |none=>(l,2)
 |some l'=>(l',0)
def vL(l:List (D aC))(s:aD):List (D aC):=l.filter fun e=>decide (e.1≠s)
def pO(l:List (D aC))(s:aD):List (D aC)×Int:=if(vL l s).length=l.length then(l,5)else(vL l s,0)
def NZ{l:List (D aC)}{e:D aC}(h:bC e > 0):oT l e=(l,bC e):=by unfold oT;rw[if_pos h]
def TI{l:List (D aC)}{e:D aC}{i:Nat}(h:¬bC e > 0)(hi:i<l.length)(hq:∀j,j<i->(nth aC l j).1≠e.1)(he:(nth aC l i).1=e.1):oT l e=(l.set i e,0):=by
 have hf:=Bb hi hq he;unfold oT rC;rw[if_neg h,if_pos (by rw[hf];omega),hf];rfl
def QN{l:List (D aC)}{e:D aC}(h:¬bC e > 0)(hq:∀j,j<l.length->(nth aC l j).1≠e.1)(hl:(l.length:Int)=3):oT l e=(l,2):=by
 unfold oT rC;rw[if_neg h,if_neg (by rw[rA hq];decide),if_pos (by omega)]
def TJ{l:List (D aC)}{e:D aC}(h:¬bC e > 0)(hq:∀j,j<l.length->(nth aC l j).1≠e.1)(hl:¬(l.length:Int)=3):oT l e=(l++[e],0):=by
 unfold oT rC;rw[if_neg h,if_neg (by rw[rA hq];decide),if_neg (by omega)]
def dS(c:UInt8)(s:aD):List aD:=ai [c] 1 (bu s [c]) s
def Fo(sep:aD)(save:Nat):∀(k:Nat) (s:aD),∀y∈ai sep save k s,y.length<=s.length
 |0,s,y,h=>by simp[ai]at h;subst h;exact ak _
 |k+1,s,y,h=>by
  unfold ai at h;split at h
  ·simp at h;subst h;exact ak _
  ·rcases cf.1 h with rfl|h
   ·rw[al];exact Nat.min_le_right _ _
   ·exact a8 (Fo sep save k _ y h) (by rw[bw];omega)
def Fp(c:UInt8)(s y:aD)(h:y∈dS c s):y.length<=s.length:=Fo _ _ _ _ _ h
def gI(d:Dk):Dk×Int:=
 if(d.2.2.1.length:Int)<112 then(d,8)
 else if(bK d 1 []).2≠0 then bK d 1 []
 else if(bL (bK d 1 []).1).2≠0 then bL (bK d 1 []).1
 else if(bK (bL (bK d 1 []).1).1 0 (dU 2 0)).2≠0 then bK (bL (bK d 1 []).1).1 0 (dU 2 0)
 else bL (bK (bL (bK d 1 []).1).1 0 (dU 2 0)).1
def VL{d:Dk}(h:(d.2.2.1.length:Int)<112):gI d=(d,8):=by unfold gI;rw[if_pos h]
def Xw{d:Dk}(h:¬(d.2.2.1.length:Int)<112)(h1:(bK d 1 []).2≠0):gI d=bK d 1 []:=by unfold gI;rw[if_neg h,if_pos h1]
def Xx{d:Dk}(h:¬(d.2.2.1.length:Int)<112)(h1:(bK d 1 []).2=0)(h2:(bL (bK d 1 []).1).2≠0):gI d=bL (bK d 1 []).1:=by
 unfold gI;rw[if_neg h,if_neg (not_not_intro h1),if_pos h2]
def Xy{d:Dk}(h:¬(d.2.2.1.length:Int)<112)(h1:(bK d 1 []).2=0)(h2:(bL (bK d 1 []).1).2=0)(h3:(bK (bL (bK d 1 []).1).1 0 (dU 2 0)).2≠0):gI d=bK (bL (bK d 1 []).1).1 0 (dU 2 0):=by
 unfold gI;rw[if_neg h,if_neg (not_not_intro h1),if_neg (not_not_intro h2),if_pos h3]
def Xz{d:Dk}(h:¬(d.2.2.1.length:Int)<112)(h1:(bK d 1 []).2=0)(h2:(bL (bK d 1 []).1).2=0)(h3:(bK (bL (bK d 1 []).1).1 0 (dU 2 0)).2=0):gI d=bL (bK (bL (bK d 1 []).1).1 0 (dU 2 0)).1:=by
 unfold gI;rw[if_neg h,if_neg (not_not_intro h1),if_neg (not_not_intro h2),if_neg (not_not_intro h3)]
def rN{a b:Nat}(ha:a<2^40)(hb:b<2^40):QD (a:Int) (b:Int)=((a ||| b:Nat):Int):=by
 have hlt:a ||| b<2^40:=bf ha hb
 have e:∀n:Nat,bm a7.bits (n:Int)=BitVec.ofNat a7.bits n:=fun n=>BitVec.ofInt_natCast _ n
 unfold QD;rw[e,e,<-BitVec.ofNat_or,BitVec.toNat_ofNat,Nat.mod_eq_of_lt (aq hlt (by decide))];exact lD (by omega) (by omega)
def rO{a k:Nat}(ha:a<2^8)(hk:k<=24):QF (a:Int) k=((a*2^k:Nat):Int):=by
 unfold QF;have h1:2^k<=2^24:=Nat.pow_le_pow_right (by decide) hk;have h2:a*2^k<=255*2^24:=Nat.mul_le_mul (by omega) h1;rw[show((a:Nat):Int)*(2:Int)^k=((a*2^k:Nat):Int) by simp];exact lD (by omega) (by omega)
def Ad(s:aD):∃n:Nat,iW s=(n:Int)/\n<2^32:=by
 have hb:∀i,(dW s i).toNat<2^8:=fun i=>(dW s i).toNat_lt
 have h1:(dW s 1).toNat*2^8<2^32:=aq (bx (hb 1) (by decide)) (by decide);have h2:(dW s 2).toNat*2^16<2^32:=aq (bx (hb 2) (by decide)) (by decide);have h3:(dW s 3).toNat*2^24<2^32:=aq (bx (hb 3) (by decide)) (by decide);have h0:(dW s 0).toNat<2^32:=aq (hb 0) (by decide);have w:∀{n:Nat},n<2^32->n<2^40:=fun h=>aq h (by decide)
 unfold iW;rw[rO (hb 1) (by decide),rO (hb 2) (by decide),rO (hb 3) (by decide),rN (w h0) (w h1)];have a1:=bf h0 h1;rw[rN (w a1) (w h2)];have a2:=bf a1 h2;rw[rN (w a2) (w h3)];exact⟨_,rfl,bf a2 h3⟩
def xT(d:Dk)(i:Int):aD:=nth .str d.2.2.1 (aw i)
def pT(d:Dk)(i:Nat):Int:=iW (ag 1 (af 5 (xT d i)))
def qT(d:Dk)(i:Nat):Int:=iW (ag 5 (af 9 (xT d i)))
def eN(d:Dk):Nat->Int×Int
 |0=>(0,0)
 |i+1=>if((dW (xT d i) 0).toNat:Int)=83/\(eN d i).1<pT d i/\qT d i<=3520 then(pT d i,qT d i)else eN d i
def iZ(d:Dk)(b:Int):Nat->aD
 |0=>[]
 |i+1=>iZ d b i++xT d (b+(i:Int))
def km(L:List aD):List (D aC):=(L.filter fun s=>decide (s≠[])).map fun s=>(hZ s).1
def IQ(L:List aD):Prop:=∃j,j<L.length/\nth .str L j≠[]/\(hZ (nth .str L j)).2.isNil=false
def kW(d:Dk):Int:=2+(eN d 2).1.tmod 2*55
def dP(d:Dk):List aD:=dS 10 (af (eN d 2).2.toNat (iZ d (kW d) 55))
open Classical in
def cP(d:Dk):(Int×List (D aC))×Int:=
 if d.1.2.1=true then((0,[]),9)else if(d.2.2.1.length:Int)<112 then((0,[]),4)else if(eN d 2).1=0 then((0,[]),4)
 else if IQ (dP d)then((0,[]),4)else(((eN d 2).1,km (dP d)),0)
def CN(d:Dk):eN d 0=(0,0):=rfl
def U3(d:Dk)(i:Nat):eN d (i+1)=if((dW (xT d i) 0).toNat:Int)=83/\(eN d i).1<pT d i/\qT d i<=3520 then(pT d i,qT d i)else eN d i:=rfl
def GG(d:Dk)(b:Int):iZ d b 0=[]:=rfl
def CO(d:Dk)(b:Int)(i:Nat):iZ d b (i+1)=iZ d b i++xT d (b+(i:Int)):=rfl
def o6(d:Dk)(i:Nat):pT d i=iW (ag 1 (af 5 (nth .str d.2.2.1 i))):=rfl
def rP(d:Dk)(i:Nat):qT d i=iW (ag 5 (af 9 (nth .str d.2.2.1 i))):=rfl
def kG(d:Dk):kW d=2+(eN d 2).1.tmod 2*55:=rfl
def gQ(d:Dk):dP d=dS 10 (af (eN d 2).2.toNat (iZ d (kW d) 55)):=rfl
def uD{d:Dk}{i:Nat}(h1:((dW (nth .str d.2.2.1 i) 0).toNat:Int)=83)(h2:(eN d i).1<pT d i)(h3:qT d i<=3520):eN d (i+1)=(pT d i,qT d i):=by rw[U3];exact if_pos ⟨h1,h2,h3⟩
def yI{d:Dk}{i:Nat}(h:¬(((dW (nth .str d.2.2.1 i) 0).toNat:Int)=83/\(eN d i).1<pT d i/\qT d i<=3520)):eN d (i+1)=eN d i:=by rw[U3];exact if_neg h
def gP(d:Dk):∀i,(0<=(eN d i).1/\(eN d i).1<4294967296)/\0<=(eN d i).2/\(eN d i).2<=3520
 |0=>by rw[CN];decide
 |i+1=>by
  by_cases h:((dW (nth .str d.2.2.1 i) 0).toNat:Int)=83/\(eN d i).1<pT d i/\qT d i<=3520
  ·rw[uD h.1 h.2.1 h.2.2]
   obtain⟨n,e,hn⟩:=Ad (ag 1 (af 5 (nth .str d.2.2.1 i)));obtain⟨m,e2,hm⟩:=Ad (ag 5 (af 9 (nth .str d.2.2.1 i)));have h3:=h.2.2;rw[o6,rP,e,e2];rw[rP,e2]at h3;refine⟨⟨by omega,?_⟩,by omega,h3⟩;have:(n:Int)<((2^32:Nat):Int):=Int.ofNat_lt.2 hn;simpa using this
  ·rw[yI h];exact gP d i
def tg{a:Int}(h:0<=a):0<=a.tmod 2/\a.tmod 2<=1:=by rw[av h];omega
def kH{d:Dk}(hs:∀i,i<d.2.2.1.length->(nth .str d.2.2.1 i).length=64){b:Int}(hb:0<=b):∀n:Nat,b+(n:Int)<=d.2.2.1.length->(iZ d b n).length=64*n
 |0,_=>by rw[GG];rfl
 |n+1,h=>by
  rw[CO,ad,kH hs hb n (by omega),show(xT d (b+(n:Int))).length=64 from hs _ (by omega)];omega
def QO{d:Dk}(h:d.1.2.1=true):cP d=((0,[]),9):=by unfold cP;rw[if_pos h]
def TK{d:Dk}(h1:d.1.2.1=false)(h:(d.2.2.1.length:Int)<112):cP d=((0,[]),4):=by unfold cP;rw[if_neg (by rw[h1];decide),if_pos h]
def QP{d:Dk}(h1:d.1.2.1=false)(h:¬(d.2.2.1.length:Int)<112)(h5:(eN d 2).1=0):cP d=((0,[]),4):=by unfold cP;rw[if_neg (by rw[h1];decide),if_neg h,if_pos h5]
def TL{d:Dk}(h1:d.1.2.1=false)(h:¬(d.2.2.1.length:Int)<112)(h5:¬(eN d 2).1=0)(hb:IQ (dP d)):cP d=((0,[]),4):=by unfold cP;rw[if_neg (by rw[h1];decide),if_neg h,if_neg h5,if_pos hb]
def LO{d:Dk}(h1:d.1.2.1=false)(h:¬(d.2.2.1.length:Int)<112)(h5:¬(eN d 2).1=0)(hb:¬IQ (dP d)):cP d=(((eN d 2).1,km (dP d)),0):=by unfold cP;rw[if_neg (by rw[h1];decide),if_neg h,if_neg h5,if_neg hb]
def QQ{L:List aD}{i:Nat}(h:i<L.length)(he:nth .str L i=[]):km (L.take (i+1))=km (L.take i):=by
 unfold km;rw[iM (t:=.str) h,bz,he];simp
def QS{L:List aD}{i:Nat}(h:i<L.length)(he:nth .str L i≠[]):km (L.take (i+1))=km (L.take i)++[(hZ (nth .str L i)).1]:=by
 unfold km;rw[iM (t:=.str) h,bz];simp[he]
def TM(L:List aD):(km L).length<=L.length:=by unfold km;rw[bb];exact List.length_filter_le _ _
def VM{L:List aD}{i:Nat}(hi:¬i<L.length)(h:∀j,j<i->nth .str L j=[]\/(hZ (nth .str L j)).2.isNil=true):¬IQ L:=by
 rintro⟨j,h1,h2,h3⟩;rcases h j (by omega)with h|h
 ·exact h2 h
 ·rw[h]at h3;cases h3
def CP(sep:aD)(save:Nat):∀(k:Nat) (s:aD),(ai sep save k s).length<=k+1
 |0,s=>by simp[ai]
 |k+1,s=>by
  unfold ai;split
  ·simp
  ·rw[ae];have:=CP sep save k (s.drop ((b4 s sep).toNat+sep.length));omega
def N0(c:UInt8)(s:aD):(dS c s).length<=s.length+1:=by
 unfold dS;refine a8 (CP _ _ _ _) ?_;rw[bg];have:=List.count_le_length (a:=c) (l:=s);omega
def QT:km []=[]:=rfl
def iX(d:Dk):Dk×Int:=ch (⟨gI d,rfl⟩:∃y,y=gI d)
def me(d:Dk):iX d=gI d:=cj (⟨gI d,rfl⟩:∃y,y=gI d)
attribute [irreducible] eN iZ km kW dP pT qT
end Go.Mrl

namespace Go.Vg
open Go.RowKit
def DO(t:Ty):aT:=fun args st K=>
 match args with
 |[.one (.aV n),.one a,.one b]=>match look st.aF n,sC (.int .i64) a,sC (.int .i64) b with
  |some (.aV t' xs),some i,some j=>match Ty.beq t' t with
   |true =>.and (0<=(i:Int)/\(i:Int)<(j:Int)/\(j:Int)<=xs.length)
     (K (.s (.one (.aV st.next))) (fresh (bA (bA st n) n) (.aV t' (xs.take (i:Int).toNat++xs.drop (j:Int).toNat))))
   |false =>.ff
  |_,_,_ =>.ff
 |_ =>.ff
def QU(P:Program)(f:FuncId)(sz:Nat):Prop:=∀(b i j n cap:Nat) (vs:Array Value) (T:TypeId) (w:World),w.heap[b]?=some (.cells vs T (0,0))->vs.size=cap*sz->i<j->j<=n->n<=cap->n<=aM->
 (∀(k:Nat) u,k<n*sz->vs[k]?=some u->u.oneCell'=true)->
 Calls P f #[.slice (some ⟨b,0,none⟩) n cap,.int .i64 (i:Int),.int .i64 (j:Int)] w fun e w'=>e=.returned (.slice (some ⟨b,0,none⟩) (i+(n-j)) cap)/\w'.os=w.os/\w'.output=w.output/\w'.heap.size=w.heap.size/\(∀k,k≠b->w'.heap[k]?=w.heap[k]?)/\
  ∃vs':Array Value,w'.heap[b]?=some (.cells vs' T (0,0))/\vs'.size=vs.size/\∀k,k<(i+(n-j))*sz->vs'[k]?=vs[if k<i*sz then k else k+(j-i)*sz]?
def TN{i j:Int}{n:Nat}(h0:0<=i)(hij:i<j)(hj:j<=n):∃i' j':Nat,i=(i':Int)/\j=(j':Int)/\i'<j'/\j'<=n:=
 ⟨i.toNat,j.toNat,by omega,by omega,by omega,by omega⟩
section
variable{P:Program}{X:Ext}{f:FuncId}
def N1{B:Cx}{t:Ty}(hfn:∃fn,P.funcs[f]?=some fn/\fn.body.isNone=false/\(fn.name == "runtime.NumGoroutine")=false)(H:QU P f t.size) :
  bX P B.eT X f false (DO t):=by
 refine⟨hfn,fun O st loc w args vs K hs g hO ha =>?_⟩;unfold DO at hs;split at hs
 case h_2=>exact hs.elim
 rename_i n ca cb;split at hs
 case h_2=>exact hs.elim
 rename_i t' xs i j hob hi hj;split at hs
 case h_2=>exact hs.elim
 rename_i ht;have ht':=Ty.eq_of_beq ht;subst ht';obtain⟨⟨h0,hij,hjx⟩,hs⟩:=hs
 match vs,ha with
 |[v0,v1,v2],.cons a0 (.cons a1 (.cons a2 .nil))=>
 have key:=TN h0 hij hjx;clear h0 hij hjx;obtain⟨i,j,rfl,rfl,hij,hjx⟩:=key;have hs:(K (.s (.one (.aV st.next))) (fresh (bA (bA st n) n) (.aV t' (xs.take i++xs.drop j)))).holds:=hs;have e1:v1=.int .i64 (i:Int):=(cS.1 (pW hi a1)).1;have e2:v2=.int .i64 (j:Int):=(cS.1 (pW hj a2)).1;subst e1 e2;have hvl:=a0.2 _ _ hob;rcases(g.obj n _ hob).2 with⟨rfl,_⟩|⟨b,cs,T,cap,hl1,ig,hheap,hsz,hfit,hbig,he⟩
 ·simp at hjx;omega
 have hv0:=hvl.trans hl1;subst hv0;have hxs:List.length xs*t'.size<=cs.size:=by rw[hsz];exact bh _ hfit
 obtain⟨olds,ho,ho1,ho3,ho4⟩:=qo (cx:=B) he hxs;refine(H b i j xs.length cap cs T w hheap hsz hij hjx hfit hbig (fun k u hk hu=>ho4 u ?_)).mono ?_
 ·refine List.mem_of_getElem? (i:=k) ?_
  rw[ho,List.getElem?_take,if_pos hk,Array.getElem?_toList];exact hu
 rintro r w' ⟨rfl,k1,k2,k3,k4,cs',k5,k6,k7⟩;have hl':(xs.take i++xs.drop j).length=i+(xs.length-j):=by rw[ad,al,bw];omega
 obtain⟨tr,gd⟩:=rn (w':=w') (oc:=.aV t' (xs.take i++xs.drop j)) (l:=⟨.slice (some ⟨b,0,none⟩) (i+(xs.length-j)) cap,[b]⟩) g hO n n k1 k2 (Nat.le_of_eq k3.symm)
  (fun k oc' hk hl=>by
   have:k=n:=by rcases hk with h|h <;> exact h
   subst this;rw[hob]at hl;cases hl;rfl)
  (fun b' hlt hb=>k4 b' fun e'=>hb n _ (.inl rfl) hob (by rw[e',show(loc n).bs=_ from ig];simp))
  (fun b' hbm=>by
   simp at hbm;subst hbm;exact .inl ⟨n,_,.inl rfl,hob,by rw[show(loc n).bs=_ from ig];simp⟩)
 have gd:=gd (.inr ⟨b,cs',T,cap,by rw[hl'],rfl,k5,by rw[k6,hsz],by rw[hl'];omega,by rw[hl'];unfold aM at*;omega,fun k y hy=>by
  have hk:k<i+(xs.length-j):=by have:=bG hy;rw[hl']at this;exact this
  obtain⟨k',hk',hyx⟩:∃k',(k'=if k<i then k else k+(j-i))/\xs[k']?=some y:=by
   refine⟨_,rfl,?_⟩;rw[List.getElem?_append,al]at hy;by_cases h:k<i
   ·rw[if_pos (by omega),List.getElem?_take,if_pos h]at hy
    rw[if_pos h];exact hy
   ·rw[if_neg (by omega),List.getElem?_drop]at hy
    rw[if_neg h];rw[show j+(k-min i xs.length)=k+(j-i) by omega]at hy;exact hy
  obtain⟨us,r1,r2⟩:=he k' y hyx;refine⟨us,r1.frame tr.cell,fun q u hq =>?_⟩;have hql:q<t'.size:=by have:=bG hq;rw[r1.length]at this;exact this
  have hm:(k+1)*t'.size<=(i+(xs.length-j))*t'.size:=bh _ hk;rw[b5,Nat.one_mul]at hm;rw[k7 _ (by omega)];have:=r2 q u hq;by_cases h:k<i
  ·rw[if_pos h]at hk'
   subst hk';have hm2:(k'+1)*t'.size<=i*t'.size:=bh _ h;rw[b5,Nat.one_mul]at hm2;rw[if_pos (by omega)];exact this
  ·rw[if_neg h]at hk'
   have hm2:i*t'.size<=k*t'.size:=bh _ (by omega);rw[if_neg (by omega)];rw[hk',b5]at this;rw[show k*t'.size+q+(j-i)*t'.size=k*t'.size+(j-i)*t'.size+q by omega];exact this⟩)
 exact⟨_,_,_,_,rfl,hs,rfl,(fun hq=>by cases hq),gd,tr,⟨by simp[aA,fresh,bA],fun t xs hy=>by simp[aA,bU]⟩⟩
end
end Go.Vg

namespace Go.Mrl
open Go.Vg
def nr{n:Int}{k:Nat}(h0:0<=n)(h:n<((10^(k+1):Nat):Int)):(Lib.itoa n).length<=k+1:=by
 unfold Lib.itoa;rw[if_neg (by omega)];exact oG k n.toNat (by omega)
def QV{n:Int}(h:iv (-2147483648) 2147483647 n):(Lib.itoa n).length<=11:=by
 have h1:=h.1;have h2:=h.2;by_cases hn:n<0
 ·rw[PR hn,ad,b6]
  have:=nr (n:=-n) (k:=9) (by omega) (by omega);omega
 ·have:=nr (n:=n) (k:=9) (by omega) (by omega);omega
def DP{α:Type}{f:α->aD}{m:Nat}:∀{l:List α},(∀x∈l,(f x).length<=m)->(l.flatMap f).length<=m*l.length
 |[],_=>by simp
 |a :: r,h=>by
  have h1:=h a (by simp);have h2:=DP (l:=r) fun x hx=>h x (by simp[hx])
  rw[List.flatMap_cons,ad,ae,Nat.mul_add,Nat.mul_one];omega
def IS{p:D aG}(h1:Nm p.1)(h2:iv 1 1000000 p.2.1)(h3:iv 0 255 p.2.2.1):(nk p).length<=21:=by
 have a:=h1.2.1;have b:=nr (n:=p.2.1) (k:=6) (by have:=h2.1;omega) (by have:=h2.2;omega);have c:=nr (n:=p.2.2.1) (k:=2) (by have:=h3.1;omega) (by have:=h3.2;omega);simp[nk];omega
def IT{p:D aR}(h1:iv 0 5 p.1)(h2:iv 0 39 p.2.1)(h3:iv (-2147483648) 2147483647 p.2.2.1):(nn p).length<=17:=by
 have a:=nr (n:=p.1) (k:=0) (by have:=h1.1;omega) (by have:=h1.2;omega);have b:=nr (n:=p.2.1) (k:=1) (by have:=h2.1;omega) (by have:=h2.2;omega);have c:=QV h3;simp[nn];omega
def KD{e:D aC}(hf:bC e=0):(fU e).length<=752:=by
 have h:=lH hf;have a1:=h.nm.2.1;have a2:=nr (n:=(e.2.1.length:Int)) (k:=0) (by omega) (by have:=h.p6;omega);have a3:=nr (n:=(e.2.2.1.length:Int)) (k:=1) (by omega) (by have:=h.CC;omega);have hh:(vD e).length<=13:=by simp[vD];omega
 have b:=DP (f:=nk) (m:=21) (l:=e.2.1) fun x hx=>by
  obtain⟨j,hj,rfl⟩:=gV (t:=aG) hx;obtain⟨k1,k2,k3⟩:=h.parts j hj;exact IS k1 k2 k3
 have c:=DP (f:=nn) (m:=17) (l:=e.2.2.1) fun x hx=>by
  obtain⟨j,hj,rfl⟩:=gV (t:=aR) hx;obtain⟨k1,k2,k3⟩:=h.Io j hj;exact IT k1 k2 k3
 have d1:=h.p6;have d2:=h.CC;unfold fU ry jy jL;rw[ck,ck,ad,ad,ad,b6];omega
def rD:∀{l:List (D aC)},(∀e∈l,bC e=0)->(dF l).length<=752*l.length
 |[],_=>by simp[dF]
 |e :: r,h=>by
  have h1:=KD (h e (by simp));have h2:=rD (l:=r) fun x hx=>h x (by simp[hx])
  have h3:dF (e :: r)=fU e++dF r:=rfl;rw[h3,ad,ae];omega
def Fq{c:UInt8}:∀{l r:aD},c∉l->b4 (l++c :: r) [c]=(l.length:Int)
 |[],r,_=>xy
 |b :: l,r,h=>by
  have hb:b≠c:=fun e=>h (by rw[e];simp)
  rw[bq,xx hb,Fq (l:=l) (r:=r) fun k=>h (List.mem_cons_of_mem _ k),ae];rw[if_neg (by simp)];omega
def KE{c:UInt8}{l r:aD}(h:c∉l):dS c (l++[c]++r)=(l++[c]) :: dS c r:=by
 have hc:bu (l++[c]++r) [c]=bu r [c]+1:=by
  rw[bg,bg,cm,List.count_append,List.count_eq_zero_of_not_mem h];simp
 have hi:b4 (l++[c]++r) [c]=(l.length:Int):=by rw[cm];exact Fq h
 unfold dS;rw[hc,ai,hi,if_neg (by simp)];have e1:((l.length:Int)).toNat+1=(l++[c]).length:=by simp
 have e2:((l.length:Int)).toNat+ [c].length=(l++[c]).length:=by simp
 rw[e2,List.drop_left,e1,List.take_left]
def N2(c:UInt8):dS c []=[[]]:=by
 unfold dS;rw[bg];rfl
def CQ:∀{l:List (D aC)},(∀e∈l,bC e=0)->dS 10 (dF l)=l.map fU++[[]]
 |[],_=>N2 10
 |e :: r,h=>by
  have h3:dF (e :: r)=ry e++[10]++dF r:=rfl;rw[h3,KE (NP (lH (h e (by simp)))),CQ (l:=r) fun x hx=>h x (by simp[hx])];rfl
def TO(e:D aC):fU e≠[]:=by unfold fU;simp
def CS{e:D aC}(h:bC e=0):hZ (fU e)=(e,.nil):=by unfold hZ;rw[LI h rfl];rfl
def TP{l:List (D aC)}(h:∀e∈l,bC e=0):km (l.map fU++[[]])=l:=by
 unfold km;rw[bz,cn.2 fun s hs=>by
  obtain⟨e,_,rfl⟩:=ar.1 hs;exact decide_eq_true (TO e)]
 simp only[b7,List.filter_nil,ne_eq,not_true_eq_false,decide_false,Bool.false_eq_true,if_false,List.append_nil,List.map_map];have:l.map ((fun s=>(hZ s).1) ∘ fU)=l.map id:=List.map_congr_left fun e he=>by simp only[Function.comp];rw[CS (h e he)];rfl
 rw[this,List.map_id]
def TQ{l:List (D aC)}(h:∀e∈l,bC e=0):¬IQ (l.map fU++[[]]):=by
 rintro⟨j,h1,h2,h3⟩;have hm:nth .str (l.map fU++[[]]) j∈l.map fU++[[]]:=dN (t:=.str) h1;rcases bj.1 hm with hm|hm
 ·obtain⟨e,he,k⟩:=ar.1 hm
  rw[<-k,CS (h e he)]at h3;cases h3
 ·exact h2 (au.1 hm)
def QW(n:Int):vJ n=n % 256:=by
 unfold vJ;simp[az,IntKind.signed,IntKind.bits]
def th{n:Nat}{m:Int}{k:Nat}(h:m=((n / 2^k:Nat):Int)):(UInt8.ofNat (aw (vJ m))).toNat=n / 2^k % 256:=by
 rw[QW,h,show((n / 2^k:Nat):Int) % 256=((n / 2^k % 256:Nat):Int) by omega,ah];simp[UInt8.toNat_ofNat']
def Be(n k:Nat):((n:Nat):Int).fdiv (2^k)=((n / 2^k:Nat):Int):=by
 rw[Int.fdiv_eq_ediv_of_nonneg _ (Int.le_of_lt (Int.pow_pos (by decide)))];simp
def IU{a b k:Nat}(h:a<2^k):a ||| b*2^k=a+b*2^k:=by
 have:=Nat.two_pow_add_eq_or_of_lt h b;rw[Nat.mul_comm,Nat.or_comm];omega
def Fs{n:Nat}(h:n<2^32):iW (jW (n:Int))=(n:Int):=by
 have b0:(dW (jW (n:Int)) 0).toNat=n / 2^0 % 256:=th (n:=n) (k:=0) (by simp);have b1:(dW (jW (n:Int)) 1).toNat=n / 2^8 % 256:=th (Be n 8);have b2:(dW (jW (n:Int)) 2).toNat=n / 2^16 % 256:=th (Be n 16);have b3:(dW (jW (n:Int)) 3).toNat=n / 2^24 % 256:=th (Be n 24);have l:∀k,n / 2^k % 256<2^8:=fun k=>Nat.mod_lt _ (by decide)
 unfold iW;rw[b0,b1,b2,b3,rO (l 8) (by decide),rO (l 16) (by decide),rO (l 24) (by decide)];have l0:=l 0;have l1:=l 8;have l2:=l 16;have l3:=l 24;generalize hb0:n / 2^0 % 256=x0 at*;generalize hb1:n / 2^8 % 256=x1 at*;generalize hb2:n / 2^16 % 256=x2 at*;generalize hb3:n / 2^24 % 256=x3 at*;rw[rN (by omega) (by omega),IU (k:=8) (by omega),rN (by omega) (by omega),IU (k:=16) (by omega),rN (by omega) (by omega),IU (k:=24) (by omega)];congr 1;omega
structure nN (d:Dk):Prop where
 down:d.1.2.1=false
 kC:(d.1.1:Int)= -1
 len:112<=d.2.2.1.length
 sec:∀i,i<d.2.2.1.length->(nth .str d.2.2.1 i).length=64
 TR:d.2.1.length=d.2.2.1.length
def vM{s:aD}(h:s.length<=64):(cV s).length=64:=by unfold cV;simp;omega
def xU{d:Dk}(g:nN d):stepOf d=(d,0):=by
 unfold stepOf;rw[if_neg (by rw[g.down];decide),if_neg (by rw[g.kC];decide)];have hf:=g.kC;have hd:=g.down;obtain⟨⟨f,dn,u⟩,rest⟩:=d;simp only at hf hd;subst hd;rw[if_neg (by show ¬0<f;omega)]
def nO{d:Dk}(g:nN d){a:Int}{s:aD}(h0:0<=a)(h1:a<d.2.2.1.length)(hs:s.length<=64) :
  (bK d a s).2=0/\(bK d a s).1.2.2.1=d.2.2.1.set a.toNat (cV s)/\nN (bK d a s).1:=by
 have e:bK d a s=((d.1,d.2.1,d.2.2.1.set a.toNat (cV s),d.2.2.2.1++[(a,cV s,())],()),0):=by
  unfold bK;rw[if_neg (by omega),xU g,if_pos rfl]
 rw[e];refine⟨rfl,rfl,g.down,g.kC,by rw[ab];exact g.len,fun i hi =>?_,by rw[ab];exact g.TR⟩;show(nth .str (d.2.2.1.set a.toNat (cV s)) i).length=64;have hi:i<(d.2.2.1.set a.toNat (cV s)).length:=hi;rw[ab]at hi;by_cases c:a.toNat=i
 ·subst c;rw[lZ (t:=.str) hi];exact vM hs
 ·rw[kR (t:=.str) c];exact g.sec i hi
def nP{d:Dk}(g:nN d):(bL d).2=0/\(bL d).1.2.2.1=d.2.2.1/\nN (bL d).1:=by
 have e:bL d=((d.1,d.2.2.1,d.2.2.1,[],()),0):=by
  unfold bL;rw[xU g,if_pos rfl]
 rw[e];exact⟨rfl,rfl,g.down,g.kC,g.len,g.sec,rfl⟩
def Bf(bs:List Int):∀(pre:List Nat) {d:Dk} {s:Int},nN d->0<=s->s+(pre.length:Int)<=d.2.2.1.length->
  (jZ bs d s pre).2=0/\nN (jZ bs d s pre).1/\(jZ bs d s pre).1.2.2.1.length=d.2.2.1.length/\
  (∀j,j<pre.length->nth .str (jZ bs d s pre).1.2.2.1 (s.toNat+j)=cV (bytesOf (dR (t:=.int .u8) bs 64 (pre.getD j 0))))/\
  (∀i,i<s.toNat\/s.toNat+pre.length<=i->nth .str (jZ bs d s pre).1.2.2.1 i=nth .str d.2.2.1 i)
 |[],d,s,g,h0,h1=>⟨rfl,g,rfl,fun j hj=>absurd hj (bk _),fun i _=>rfl⟩
 |p :: r,d,s,g,h0,h1=>by
  have hc:(bytesOf (dR (t:=.int .u8) bs 64 p)).length<=64:=by rw[bytesOf,bb,pL];exact cp _ _
  rw[ae]at h1;obtain⟨w1,w2,w3⟩:=nO g (a:=s) h0 (by omega) hc;have hl:(bK d s (bytesOf (dR (t:=.int .u8) bs 64 p))).1.2.2.1.length=d.2.2.1.length:=by rw[w2,ab]
  obtain⟨k1,k2,k3,k4,k5⟩:=Bf bs r (s:=s+1) w3 (by omega) (by rw[hl];omega);have e:jZ bs d s (p :: r)=jZ bs (bK d s (bytesOf (dR (t:=.int .u8) bs 64 p))).1 (s+1) r:=by
   rw[jZ,if_pos w1]
  rw[e];have hs1:(s+1).toNat=s.toNat+1:=by omega
  refine⟨k1,k2,k3.trans hl,fun j hj =>?_,fun i hi =>?_⟩
  ·cases j with
   |zero=>
    rw[bt,k5 s.toNat (.inl (by omega)),w2,lZ (t:=.str) (by omega)];rfl
   |succ j=>
    have:=k4 j (by simpa using hj);rw[hs1]at this;rw[show s.toNat+(j+1)=s.toNat+1+j by omega,this];rfl
  ·rw[ae]at hi
   rw[k5 i (by omega),w2,kR (t:=.str) (by omega)]
def LP{d:Dk}(hs:∀i,i<d.2.2.1.length->(nth .str d.2.2.1 i).length=64){b:Int}(hb:0<=b):∀(n:Nat),b+(n:Int)<=d.2.2.1.length->∀i,i<64*n->(iZ d b n)[i]?=(nth .str d.2.2.1 (b.toNat+i / 64))[i % 64]?
 |0,_,i,hi=>by omega
 |n+1,h,i,hi=>by
  have hl:=kH hs hb n (by omega);rw[CO];by_cases c:i<64*n
  ·rw[List.getElem?_append_left (by rw[hl];exact c)]
   exact LP hs hb n (by omega) i c
  ·rw[List.getElem?_append_right (by rw[hl];omega),hl]
   have e1:i / 64=n:=by omega
   have e2:i-64*n=i % 64:=by omega
   rw[e1,e2,show xT d (b+(n:Int))=nth .str d.2.2.1 (b.toNat+n)from congrArg (nth .str d.2.2.1) (by omega)]
def QX(t:aD)(j r:Nat)(hr:r<64):(bytesOf (dR (t:=.int .u8) (bE t) 64 j))[r]?=t[j*64+r]?:=by
 have e:bytesOf (dR (t:=.int .u8) (bE t) 64 j)=(t.drop (j*64)).take 64:=by
  have h:∀l:aD,bytesOf (bE l)=l:=vp
  have h2:dR (t:=.int .u8) (bE t) 64 j=bE ((t.drop (j*64)).take 64):=by simp[dR,bE,List.map_take,List.map_drop]
  rw[h2,h]
 rw[e,List.getElem?_take,if_pos hr,List.getElem?_drop]
def VN{d:Dk}(hs:∀i,i<d.2.2.1.length->(nth .str d.2.2.1 i).length=64){b:Int}(hb:0<=b)(hb2:b+55<=d.2.2.1.length){t:aD}(ht:t.length<=3520)
  (hw:∀j,j<eY t.length 64->nth .str d.2.2.1 (b.toNat+j)=cV (bytesOf (dR (t:=.int .u8) (bE t) 64 j))):(iZ d b 55).take t.length=t:=by
 apply cq;intro i;by_cases c:i<t.length
 ·rw[List.getElem?_take,if_pos c,LP hs hb 55 hb2 i (by omega)]
  have hj:i / 64<eY t.length 64:=by unfold eY;omega
  rw[hw _ hj];unfold cV;have hg:=QX t (i / 64) (i % 64) (Nat.mod_lt _ (by decide));have hi:i / 64*64+i % 64=i:=by omega
  rw[hi]at hg;have hlt:i % 64<(bytesOf (dR (t:=.int .u8) (bE t) 64 (i / 64))).length:=by
   apply Classical.byContradiction;intro hn;rw[List.getElem?_eq_none (by omega)]at hg;rw[List.getElem?_eq_getElem c]at hg;cases hg
  rw[List.getElem?_append_left hlt,hg]
 ·rw[List.getElem?_take,if_neg c,List.getElem?_eq_none (by omega)]
def QY(a b:Int)(s:aD):ag 1 (af 5 (dU a b++s))=jW a/\ag 5 (af 9 (dU a b++s))=jW b/\(dW (dU a b++s) 0).toNat=83:=by
 refine⟨rfl,rfl,rfl⟩
def IV{d:Dk}{p:Nat}{a b:Nat}(h:nth .str d.2.2.1 p=cV (dU a b))(ha:a<2^32)(hb:b<2^32) :
  ((dW (nth .str d.2.2.1 p) 0).toNat:Int)=83/\pT d p=(a:Int)/\qT d p=(b:Int):=by
 obtain⟨h1,h2,h3⟩:=QY a b (b8 (64-(dU a b).length) 0);rw[o6,rP,h];unfold cV;exact⟨by rw[h3];rfl,by rw[h1];exact Fs ha,by rw[h2];exact Fs hb⟩
structure dQ (d:Dk) (r:Nat) (l:List (D aC)):Prop where
 eP:nN d
 quiet:d.2.2.2.1=[]
 rh:∀e∈l,bC e=0
 nT:l.length<=3
 r2:2<=r
 rM:r<=1000000000
 head:nth .str d.2.2.1 (r % 2)=cV (dU r (dF l).length)
 other:((dW (nth .str d.2.2.1 (1-r % 2)) 0).toNat:Int)≠83\/pT d (1-r % 2)<(r:Int)
 text:(iZ d (2+((r % 2:Nat):Int)*55) 55).take (dF l).length=dF l
def tj:∀{l:List (D aC)},(∀e∈l,bC e=0)->lJ l=0
 |[],_=>rfl
 |e :: r,h=>by unfold lJ;rw[if_neg (not_not_intro (h e (by simp)))];exact tj fun x hx=>h x (by simp[hx])
def dQ.small{d:Dk}{r:Nat}{l:List (D aC)}(h:dQ d r l):(dF l).length<=2256:=by
 have:=rD h.rh;have:=h.nT;omega
def dQ.XH{d:Dk}{r:Nat}{l:List (D aC)}(h:dQ d r l):eN d 2=((r:Int),((dF l).length:Int)):=by
 have hr:=h.r2;have hM:=h.rM;have hs:=h.small;obtain⟨k1,k2,k3⟩:=IV h.head (by omega) (by omega);have ho:=h.other;rcases Nat.mod_two_eq_zero_or_one r with e|e
 ·rw[e]at k1 k2 k3 ho
  have h1:eN d 1=((r:Int),((dF l).length:Int)):=by
   rw[uD k1 (by rw[CN,k2];show(0:Int)<r;omega) (by rw[k3];omega),k2,k3]
  rw[yI (i:=1) fun hh =>?_,h1];rcases ho with ho|ho
  ·exact ho hh.1
  ·have h2:=hh.2.1
   rw[h1]at h2;have h2:(r:Int)<pT d 1:=h2;have ho:pT d 1<(r:Int):=ho;omega
 ·rw[e]at k1 k2 k3 ho
  have h1:(eN d 1).1<(r:Int):=by
   by_cases c:((dW (nth .str d.2.2.1 0) 0).toNat:Int)=83/\(eN d 0).1<pT d 0/\qT d 0<=3520
   ·rw[uD c.1 c.2.1 c.2.2]
    rcases ho with ho|ho
    ·exact absurd c.1 ho
    ·exact ho
   ·rw[yI c,CN];show(0:Int)<r;omega
  rw[uD (i:=1) k1 (by rw[k2];exact h1) (by rw[k3];omega),k2,k3]
def dQ.lines{d:Dk}{r:Nat}{l:List (D aC)}(h:dQ d r l):dP d=l.map fU++[[]]:=by
 rw[gQ,kG,h.XH];have e:((r:Int)).tmod 2=((r % 2:Nat):Int):=by rw[av (by omega)];omega
 simp only[e,ah];rw[h.text,CQ h.rh]
def dQ.opens{d:Dk}{r:Nat}{l:List (D aC)}(h:dQ d r l):cP d=(((r:Int),l),0):=by
 have h5:=h.XH;rw[LO h.eP.down (by have:=h.eP.len;omega) (by rw[h5];have:=h.r2;show ¬(r:Int)=0;omega) (by rw[h.lines];exact TQ h.rh),h.lines,TP h.rh,h5]
def CT{l:List (D aC)}(h:∀e∈l,bC e=0):(dV l).1=dF l:=by unfold dV;rw[if_neg (not_not_intro (tj h))]
def Ae{d:Dk}(g:nN d):(bL d).1.2.2.2.1=[]:=by
 have e:bL d=((d.1,d.2.2.1,d.2.2.1,[],()),0):=by unfold bL;rw[xU g,if_pos rfl]
 rw[e]
def VO{d:Dk}{r:Nat}{l l':List (D aC)}(h:dQ d r l)(hf:∀e∈l',bC e=0)(hn:l'.length<=3)(hr:r+1<=1000000000) :
  (cR d r l').2=0/\dQ (cR d r l').1 (r+1) l':=by
 have hb:=tj hf;have ht:=CT hf;have hs:(dF l').length<=2256:=by have:=rD hf;omega
 have hlen:=h.eP.len;obtain⟨p,hp,hpd⟩:∃p:Nat,p<=1/\p=(r+1) % 2:=⟨_,by omega,rfl⟩
 have hm:((r:Int)+1).tmod 2=(p:Int):=by rw[av (by omega)];omega
 have hq:r % 2=1-p:=by omega
 have hN:(eB l').length=eY (dF l').length 64:=by unfold eB;rw[bd,ht,tK]
 have hN2:eY (dF l').length 64<=36:=by unfold eY;omega
 obtain⟨a1,a2,a3,a4,a5⟩:=Bf (bE (dF l')) (eB l') (s:=2+(p:Int)*55) h.eP (by omega) (by rw[hN];omega);have ew:gR l' r d (eB l')=jZ (bE (dF l')) d (2+(p:Int)*55) (eB l'):=by unfold gR;rw[ht,hm]
 rw[<-ew]at a1 a2 a3 a4 a5;obtain⟨b1,b2,b3⟩:=nP a2;have ef:uC l' r d=bL (gR l' r d (eB l')).1:=rfl;rw[<-ef]at b1 b2 b3;obtain⟨c1,c2,c3⟩:=nO b3 (a:=(p:Int)) (s:=dU ((r:Int)+1) (dF l').length) (by omega) (by rw[b2,a3];omega) (by rw[qU];decide);have eh:qV l' r d=bK (uC l' r d).1 (p:Int) (dU ((r:Int)+1) (dF l').length):=by unfold qV;rw[ht,hm]
 rw[<-eh]at c1 c2 c3;obtain⟨e1,e2,e3⟩:=nP c3;have ek:cR d r l'=bL (qV l' r d).1:=by
  unfold cR;rw[if_neg (not_not_intro hb),if_neg (not_not_intro a1),if_neg (not_not_intro b1),if_neg (not_not_intro c1)]
 rw[ek];have hsec:(bL (qV l' r d).1).1.2.2.1=(gR l' r d (eB l')).1.2.2.1.set p (cV (dU ((r:Int)+1) (dF l').length)):=by
  rw[e2,c2,b2,ah]
 have hpl:p<(gR l' r d (eB l')).1.2.2.1.length:=by rw[a3];omega
 have htn:(2+(p:Int)*55).toNat=2+p*55:=by omega
 rw[htn]at a4 a5;refine⟨e1,{eP:=e3,quiet:=Ae c3,rh:=hf,nT:=hn,r2:=by have:=h.r2;omega,rM:=hr,head:=?_,other:=?_,text:=?_}⟩
 ·rw[<-hpd,hsec,lZ (t:=.str) hpl];rfl
 ·rw[<-hpd]
  have hk:nth .str (bL (qV l' r d).1).1.2.2.1 (1-p)=nth .str d.2.2.1 (1-p):=by
   rw[hsec,kR (t:=.str) (by omega),a5 _ (.inl (by omega))]
  have hh:=h.head;rw[hq]at hh;have hM:=h.rM;have hsm:=h.small;obtain⟨k1,k2,k3⟩:=IV hh (by omega) (by omega);right;rw[o6,hk,<-o6,k2];omega
 ·rw[<-hpd]
  refine VN (b:=2+(p:Int)*55) (fun i hi=>e3.sec i hi) (by omega) (by rw[hsec,ab,a3];omega) (by omega) fun j hj =>?_
  rw[htn,hsec,kR (t:=.str) (by omega),a4 j (by rw[hN];exact hj)];unfold eB;rw[ht,tK,List.getD_eq_getElem?_getD,List.getElem?_range hj];rfl
def ss{n:Int}(h:112<=n):nN (rb n) where
 down:=rfl
 kC:=rfl
 len:=by show 112<=(b8 n.toNat (cV [])).length;rw[List.length_replicate];omega
 sec:=fun i hi=>by
  have:i<(b8 n.toNat (cV [])).length:=hi;rw[show nth .str (rb n).2.2.1 i=cV []from List.eq_of_mem_replicate (dN (t:=.str) this)];exact vM (by decide)
 TR:=rfl
def qX{d:Dk}(g:nN d):(iX d).2=0/\dQ (iX d).1 2 []:=by
 rw[me];have hlen:=g.len;obtain⟨a1,a2,a3⟩:=nO g (a:=1) (s:=[]) (by omega) (by omega) (by decide);obtain⟨b1,b2,b3⟩:=nP a3;obtain⟨c1,c2,c3⟩:=nO b3 (a:=0) (s:=dU 2 0) (by omega) (by rw[b2,a2,ab];omega) (by rw[qU];decide);obtain⟨e1,e2,e3⟩:=nP c3;have ek:gI d=bL (bK (bL (bK d 1 []).1).1 0 (dU 2 0)).1:=by
  unfold gI;rw[if_neg (by omega),if_neg (not_not_intro a1),if_neg (not_not_intro b1),if_neg (not_not_intro c1)]
 rw[ek];have hsec:(bL (bK (bL (bK d 1 []).1).1 0 (dU 2 0)).1).1.2.2.1=(d.2.2.1.set 1 (cV [])).set 0 (cV (dU 2 0)):=by
  rw[e2,c2,b2,a2];rfl
 refine⟨e1,{eP:=e3,quiet:=Ae c3,rh:=fun e he=>absurd he (by simp),nT:=by simp,r2:=ak _,rM:=by decide,head:=?_,other:=.inl ?_,text:=rfl}⟩
 ·rw[hsec];exact lZ (t:=.str) (by rw[ab];omega)
 ·rw[hsec]
  show((dW (nth .str ((d.2.2.1.set 1 (cV [])).set 0 (cV (dU 2 0))) 1) 0).toNat:Int)≠83;rw[kR (t:=.str) (by omega),lZ (t:=.str) (by omega)];decide
structure mf (x:Sh) (m:List (D aC)) (k:Nat):Prop where
 list:x.1.2.1=m
 names:(m.map (·.1)).Nodup
 qh:∃r:Nat,(x.1.1:Int)=(r:Int)/\r<=2+k/\dQ x.2 r m
def QZ{m:List (D aC)}{e:D aC}{i:Nat}(hi:i<m.length)(he:(nth aC m i).1=e.1):(m.set i e).map (·.1)=m.map (·.1):=by
 apply cq;intro j;rw[List.getElem?_map,List.getElem?_map,List.getElem?_set];by_cases c:i=j
 ·subst c
  rw[if_pos rfl,if_pos hi];have:=mZ (t:=aC) hi;rw[this];simp[he]
 ·rw[if_neg c]
def TS{p:Nat->Prop}(h:∃i,p i):∃i,(∀j,j<i->¬p j)/\p i:=by
 obtain⟨i,hi⟩:=h;induction i using Nat.strongRecOn with
 |ind i ih=>
  by_cases c:∃j,j<i/\p j
  ·obtain⟨j,h1,h2⟩:=c;exact ih j h1 h2
  ·exact⟨i,fun j hj hp=>c ⟨j,hj,hp⟩,hi⟩
def DQ(m:List (D aC))(s:aD):(∃i,i<m.length/\(∀j,j<i->(nth aC m j).1≠s)/\(nth aC m i).1=s/\eJ m s=(i:Int))\/((∀j,j<m.length->(nth aC m j).1≠s)/\eJ m s= -1):=by
 by_cases h:∃i,i<m.length/\(nth aC m i).1=s
 ·left
  obtain⟨i,h0,h1,h2⟩:=TS h;exact⟨i,h1,fun j hj e=>h0 j hj ⟨by omega,e⟩,h2,Bb h1 (fun j hj e=>h0 j hj ⟨by omega,e⟩) h2⟩
 ·right
  have h':∀j,j<m.length->(nth aC m j).1≠s:=fun j hj e=>h ⟨j,hj,e⟩
  exact⟨h',rA h'⟩
def TT{m:List (D aC)}{e:D aC}{i:Nat}(h:∀x∈m,bC x=0)(he:bC e=0):∀x∈m.set i e,bC x=0:=fun x hx=>by
 rcases cr hx with h1|h1
 ·exact h x h1
 ·exact h1▸he
def IW{m:List (D aC)}{s:aD}(h:∀j,j<m.length->(nth aC m j).1≠s):s∉m.map (·.1):=fun hm=>by
 obtain⟨e,he,rfl⟩:=ar.1 hm;obtain⟨j,hj,rfl⟩:=gV (t:=aC) he;exact h j hj rfl
def CU{m:List (D aC)}{s:aD}(h:s∉m.map (·.1)):vL m s=m:=by
 unfold vL;exact cn.2 fun e he=>decide_eq_true fun hh=>h (ar.2 ⟨e,he,hh⟩)
def IX:∀{m:List (D aC)} {s:aD} {i:Nat},(m.map (·.1)).Nodup->i<m.length->(nth aC m i).1=s->vL m s=m.eraseIdx i
 |[],_,_,_,h,_=>absurd h (bk _)
 |e :: r,s,0,hn,_,he=>by
  have he:e.1=s:=he;rw[bc,b9]at hn;have h2:=CU (m:=r) (s:=s) (by rw[<-he];exact hn.1);unfold vL at*;rw[b7,if_neg (by simp[he]),h2];rfl
 |e :: r,s,i+1,hn,hi,he=>by
  have he:(nth aC r i).1=s:=he;rw[bc,b9]at hn;have hi:i<r.length:=by simpa using hi
  have h2:=IX (m:=r) (s:=s) (i:=i) hn.2 hi he;have hne:e.1≠s:=fun hh=>hn.1 (by rw[hh,<-he];exact ar.2 ⟨_,dN (t:=aC) hi,rfl⟩)
  unfold vL at*;rw[b7,if_pos (decide_eq_true hne),h2];rfl
def gv:Sh:=((2,[],()),(iX (rb 112)).1)
def jH:mf gv [] 0:=⟨rfl,ct,2,rfl,ak _,(qX (ss (ao _))).2⟩
def mf.at{x:Sh}{m:List (D aC)}{k:Nat}(h:mf x m k):∃r:Nat,x.1=((r:Int),m,())/\r<=2+k/\dQ x.2 r m:=by
 obtain⟨r,h1,h2,h3⟩:=h.qh;exact⟨r,aj h1 (aj h.list rfl),h2,h3⟩
def mf.opens{x:Sh}{m:List (D aC)}{k:Nat}(h:mf x m k):cP x.2=((x.1.1,m),0):=by
 obtain⟨r,h1,h2,h3⟩:=h.at;rw[h3.opens,h1]
def mf.yJ{x:Sh}{m:List (D aC)}{k:Nat}(h:mf x m k):(cP x.2).2=0:=by rw[h.opens]
def mf.again{x:Sh}{m:List (D aC)}{k:Nat}(h:mf x m k):(((cP x.2).1.1,(cP x.2).1.2,()):Int×List (D aC)×Unit)=x.1:=by
 rw[h.opens];exact aj rfl (aj h.list.symm rfl)
def dQ.yK{d:Dk}{r:Nat}{l:List (D aC)}(h:dQ d r l):dD d 1000000:=⟨by have:=h.eP.kC;omega,by rw[h.quiet];exact br _,h.eP.TR⟩
def mf.yK{x:Sh}{m:List (D aC)}{k:Nat}(h:mf x m k):dD x.2 1000000:=let⟨_,_,_,h3⟩:=h.at;h3.yK
def mf.sec{x:Sh}{m:List (D aC)}{k:Nat}(h:mf x m k):∀i,i<x.2.2.2.1.length->(nth .str x.2.2.2.1 i).length=64:=let⟨_,_,_,h3⟩:=h.at;h3.eP.sec
def Ft{b:List Int}{i n:Int}{t:D bD}(h:(kq b i t n).2.isNil=true):(-2147483648:Int)<=(kq b i t n).1/\(kq b i t n).1<=(2147483647:Int):=by
 unfold kq at h ⊢;split
 ·rename_i hk
  rw[if_pos hk]at h;split
  ·exact⟨by decide,by decide⟩
  ·rename_i h1
   exact⟨by show(-2147483648:Int)<=n-(og b i.toNat+t.1);omega,by show n-(og b i.toNat+t.1)<=(2147483647:Int);omega⟩
 ·split
  ·exact⟨by decide,by decide⟩
  ·rename_i h1
   exact⟨by show(-2147483648:Int)<=n;omega,by show n<=(2147483647:Int);omega⟩
def TU{l:List (D aB)}{b:List Int}{i:Int}{t:D bD}(h:(gX l b i t).2.isNil=true):(-2147483648:Int)<=(gX l b i t).1/\(gX l b i t).1<=(2147483647:Int):=by
 unfold gX at h ⊢;split
 ·rename_i hk;rw[if_pos hk]at h;exact Ft h
 ·rename_i hk
  rw[if_neg hk]at h;split
  ·rename_i h1;rw[if_pos h1]at h;exact Ft h
  ·exact⟨show(-2147483648:Int)<=0 by decide,show(0:Int)<=2147483647 by decide⟩
def IY{l:List (D aB)}{b:List Int}:∀{os:List (D aB)} {i:Nat},(∀k,k<os.length->(nth aB os k).2.2.2.1.length<=6)->(rf l b os i).length<=6*os.length
 |[],i,_=>by simp[rf]
 |o :: r,i,h=>by
  have h0:o.2.2.2.1.length<=6:=h 0 (by simp);have hr:=IY (l:=l) (b:=b) (os:=r) (i:=i+1) fun k hk=>h (k+1) (by simp;omega)
  have hl:(A5 l b i o.2.2.2.1).length=o.2.2.2.1.length:=by simp[A5]
  show(A5 l b i o.2.2.2.1++rf l b r (i+1)).length<=6*(r.length+1);rw[ad];omega
def Fu(s:List Int):∀k,ji s k % 16=0
 |0=>rfl
 |k+1=>by
  have h:=Fu s k;show(ji s k+cM (nth (.int .i64) s k)) % 16=0;unfold cM;omega
def ki.base{rd:Rd}{root:aD}{ns:List aD}{os:List (D aB)}{bs:List Int}{ps:List Pt}(h:ki rd root ns os bs ps){i:Nat}(hi:i<os.length) :
  (0:Int)<=nth (.int .i64) bs i/\nth (.int .i64) bs i<=(255:Int)/\nth (.int .i64) bs i % (16:Int)=0:=by
 obtain⟨h1,h2,h3⟩:=h.sum;have hs:∀j,j<(bZ os).length->1<=(nth (.int .i64) (bZ os) j:Int)/\(nth (.int .i64) (bZ os) j:Int)<=40:=by
  intro k hk;rw[pJ]at hk;rw[Cu hk];have:=h1 k hk;exact⟨cc.2 this.1,cc.2 this.2⟩
 have hm:=Np hs (os.length-(i+1)) (i+1) (by rw[pJ];omega);rw[show i+1+(os.length-(i+1))=os.length by omega]at hm;have e:ji (bZ os) (i+1)=ji (bZ os) i+cM (nth (.int .i64) (bZ os) i):=rfl;have hr:=(Kr (n:=nth (.int .i64) (bZ os) i)).1;have hp:=(hs i (by rw[pJ];exact hi)).1;have hb:=h.bi i (by rw[h.bl];exact hi);refine⟨hb.1,?_,by rw[h3 i hi];exact Fu _ _⟩;rw[h3 i hi];have h2:ji (bZ os) os.length<=256:=h2;have hr:(nth (.int .i64) (bZ os) i:Int)<=cM (nth (.int .i64) (bZ os) i):=hr;have hp:(1:Int)<=nth (.int .i64) (bZ os) i:=hp;have key:∀b c d s:Int,b=c+d->s<=d->1<=s->b<=256->c<=255:=by intros;omega
 exact key _ _ _ _ e hr hp (ax hm h2)
def N3{x:cG}(g:gY x){root:aD}{ns:List aD}{os:List (D aB)}{bs:List Int}{ps:List Pt}(h:ki (aL x) root ns os bs ps):bC (root,cE (aL x) ns bs ns.length,ps,())=0:=by
 have hrd:∀j,j<ns.length->(aL x (nth .str ns j)).2.2=0:=fun j hj=>(kg g.ok (h.sc.xG j hj).1).1
 have hl:=h.sc.len;have hle:=h.sc.le;have hpos:=h.sc.pos;have hroot:aP root=0:=by
  have:=(g.read (hrd 0 hpos)).1;rw[h.sc.head]at this;exact this
 have hps:ps.length<=36:=by
  rw[h.pt];have:=IY (l:=os) (b:=bs) (os:=os) (i:=0) fun k hk=>(h.sc.obj g.ok hk).t6
  omega
 refine E7 (Int.le_of_eq hroot) (iS ?_ ?_ ?_) (fun j hj =>?_) (fun j hj =>?_)
 ·show(1:Int)<=((cE (aL x) ns bs ns.length).length:Int);rw[fC];omega
 ·show((cE (aL x) ns bs ns.length).length:Int)<=6;rw[fC];omega
 ·show(ps.length:Int)<=36;omega
 ·have hj:j<ns.length:=by rw[<-fC (aL x) ns bs ns.length];exact hj
  show eM (nth aG (cE (aL x) ns bs ns.length) j)=0;rw[jx hj];obtain⟨r1,_,r3,r4⟩:=g.read (hrd j hj);obtain⟨b1,b2,b3⟩:=h.base (i:=j) (by omega);have hm:=g.st.pre.2.2;exact Il (Int.le_of_eq r1) r3 (ax r4 hm) b1 b2 b3
 ·have hj:j<ps.length:=hj
  show eR (cE (aL x) ns bs ns.length).length (nth aR ps j)=0;rw[fC];have hp:=h.XF j hj;have hmem:nth aR ps j∈rf os bs os 0:=by rw[<-h.pt];exact dN (t:=aR) hj
  obtain⟨k,t,hk,ht,e⟩:=A6 hmem;rw[Nat.zero_add]at e;have hw:=TU (h.one k hk t ht);have h40:=(h.sc.obj g.ok hk).US;have h2:=hp.2.2.2;have h1:=hp.2.1;rw[nL]at h1;have ek:(nth aR ps j).1=(k:Int):=by rw[e]
  rw[ek,ah,vB hk]at h2;refine CB hp.1 (by rw[ek];omega) hp.2.2.1 (Int.le_of_lt_add_one (show _<(39:Int)+1 from cu h2 (cc.2 h40))) ?_ ?_
  ·rw[e];exact hw.1
  ·rw[e];exact hw.2
def Fv{x:cG}(g:gY x){root:aD}(h1:(aI (eI (aL x) root).2).isNil=true) :
  (gK (aL x) root).2=0/\kB (aL x) (eI (aL x) root).1=gK (aL x) root/\fP (aL x) (eI (aL x) root).1=true/\bC (eI (aL x) root).1=0:=by
 obtain⟨ns,os,bs,ps,e,hr,em⟩:=Fc g.ok h1;have hf:=hr.fresh g.ok;have hu:=hr.use g.ok (rd':=aL x) (fun _ _=>rfl) hf;have hl:=VA e hr;rw[em];exact⟨by rw[hl],hu.trans hl.symm,hf,N3 g hr⟩
def mu(f:cG)(e:D aC):Prop:=∃f0:cG,gY f0/\f0.1.1<=f.1.1/\eI (aL f0) e.1=(e,0)/\∀k,(aL f k).2.2=0->(aL f k).2.1<=f0.1.1->aL f k=aL f0 k
def N4(f:cG)(s t k:aD):aL (cL f s t).1 k=aL f k\/(aL (cL f s t).1 k).2.1=f.1.1+1:=by
 cases he:(aI (cL f s t).2).isNil with
 |false=>left;rw[PN he]
 |true=>
  by_cases e:k=s
  ·right;rw[e,PM he]
  ·left;exact M8 e
def mu.write{f:cG}{e:D aC}(h:mu f e)(g:gY f)(s t:aD):mu (cL f s t).1 e:=by
 obtain⟨f0,h1,h2,h3,h4⟩:=h;refine⟨f0,h1,ax h2 (g.st.write s t).2,h3,fun k a b =>?_⟩;rcases N4 f s t k with c|c
 ·rw[c]at a b ⊢;exact h4 k a b
 ·have h2:(f0.1.1:Int)<=f.1.1:=h2
  have b:((aL (cL f s t).1 k).2.1:Int)<=f0.1.1:=b;rw[c]at b;omega
def Fw{s:aD}:∀{es:List FE},(es.map pB).Nodup->cZ cK (fW cK es s) s=false
 |[],_=>rfl
 |y :: es,h=>by
  rw[bc,b9]at h;by_cases e:y.1=s
  ·have hd:fW cK (y :: es) s=es:=if_pos e
   rw[hd];cases hh:cZ cK es s with
   |false=>rfl
   |true=>
    obtain⟨z,hz,e2⟩:=l7.1 hh;exact absurd (ar.2 ⟨z,hz,(e2.trans e.symm:pB z=pB y)⟩) h.1
  ·have hd:fW cK (y :: es) s=y :: fW cK es s:=if_neg e
   rw[hd];have:=Fw (s:=s) h.2;simp only[cZ]at this ⊢;simp[this,e]
def Q0{f:cG}(g:gY f)(s:aD):(aL (fL f s).1 s).2.2=5:=by
 obtain⟨r,hr⟩:=g.st.eP;cases hh:cZ cK f.2.1.1 s with
 |false=>rw[mz hh,lN hh]
 |true=>
  rw[lE hh,lN];exact Fw hr.names
def mu.remove{f:cG}{e:D aC}(h:mu f e)(g:gY f)(s:aD):mu (fL f s).1 e:=by
 obtain⟨f0,h1,h2,h3,h4⟩:=h;refine⟨f0,h1,ax h2 (g.st.remove s).2,h3,fun k a b =>?_⟩;by_cases c:k=s
 ·subst c;rw[Q0 g]at a;cases a
 ·rw[Qg c]at a b ⊢;exact h4 k a b
def mu.self{f:cG}(g:gY f){s:aD}{e:D aC}(h:eI (aL f) s=(e,0))(hs:e.1=s):mu f e:=⟨f,g,ao _,by rw[hs];exact h,fun _ _ _=>rfl⟩
def Q1{rd:Rd}{s:aD}(h:(eI rd s).2=0):(eI rd s).1.1=s:=by
 unfold eI at h ⊢;split
 ·rename_i c;rw[if_pos c]at h;exact absurd h c
 ·rfl
def mu.XQ{f:cG}{e:D aC}(h:mu f e)(hf:fP (aL f) e=true):eI (aL f) e.1=(e,0):=by
 obtain⟨f0,h1,h2,h3,h4⟩:=h;obtain⟨ns,os,bs,ps,e1,hr,em⟩:=Fc h1.ok (root:=e.1) (by rw[h3];rfl);have he:e=(e.1,cE (aL f0) ns bs ns.length,ps,()):=by
  have:=em;rw[h3]at this;exact congrArg Prod.fst this
 rw[ND e1 hr (rd':=aL f) fun k hk =>?_,h3];obtain⟨j,hj,rfl⟩:=gV (t:=.str) hk;obtain⟨_,q⟩:=E6 hf;have hst:e.2.1=cE (aL f0) ns bs ns.length:=by rw[he]
 have qj:=q j (by rw[hst,fC];exact hj);rw[hst,jx hj]at qj;simp only at qj;have hrd:(aL f0 (nth .str ns j)).2.2=0:=by
  have:=Fa h1.ok (s:=e.1) (by rw[e1]) (i:=j) (by rw[e1];exact hj);rw[e1]at this;exact this
 refine h4 _ qj.1 ?_;rw[qj.2];exact(h1.read hrd).2.2.2
def ll(f:cG)(l:List (D aC))(s:aD):List (D dG)×Bool×Int:=
 if(fO l s).2=true/\fP (aL f) (fO l s).1=true then((kB (aL f) (fO l s).1).1,decide ((kB (aL f) (fO l s).1).2=0),(kB (aL f) (fO l s).1).2)
 else((gK (aL f) s).1,false,(gK (aL f) s).2)
def Fx{l:List (D aC)}{s:aD}(h:(fO l s).2=true):(fO l s).1∈l/\(fO l s).1.1=s:=by
 rcases DQ l s with⟨i,i1,i2,i3,i4⟩|⟨j1,j2⟩
 ·rw[LN (by omega),i4,ah];exact⟨dN (t:=aC) i1,i3⟩
 ·rw[IP (by omega)]at h;cases h
structure gZ (f:cG) (l:List (D aC)):Prop where
 eP:gY f
 made:∀e∈l,mu f e
def gZ.new:gZ qz []:=⟨.new,fun e he=>absurd he (by simp)⟩
def gZ.write{f:cG}{l:List (D aC)}(h:gZ f l)(s t:aD):gZ (cL f s t).1 l:=⟨h.eP.write s t,fun e he=>(h.made e he).write h.eP s t⟩
def gZ.remove{f:cG}{l:List (D aC)}(h:gZ f l)(s:aD):gZ (fL f s).1 l:=⟨h.eP.remove s,fun e he=>(h.made e he).remove h.eP s⟩
def TV{l:List (D aC)}{e x:D aC}(h:x∈(oT l e).1):x=e\/x∈l:=by
 unfold oT at h;split at h
 ·exact .inr h
 ·split at h
  ·exact .inr h
  ·rename_i l' hl
   unfold rC at hl;split at hl
   ·cases hl
    rcases cr h with h|h
    ·exact .inr h
    ·exact .inl h
   ·split at hl
    ·cases hl
    ·cases hl
     rcases bj.1 h with h|h
     ·exact .inr h
     ·exact .inl (au.1 h)
def Q2{l:List (D aC)}{s:aD}{x:D aC}(h:x∈(pO l s).1):x∈l:=by
 unfold pO at h;split at h
 ·exact h
 ·exact(List.mem_filter.1 h).1
def gZ.put{f:cG}{l:List (D aC)}(h:gZ f l){s:aD}(hm:(eI (aL f) s).2=0):gZ f (oT l (eI (aL f) s).1).1:=by
 refine⟨h.eP,fun x hx =>?_⟩;rcases TV hx with rfl|hx
 ·exact mu.self h.eP (aj rfl hm) (Q1 hm)
 ·exact h.made x hx
def gZ.drop{f:cG}{l:List (D aC)}(h:gZ f l)(s:aD):gZ f (pO l s).1:=⟨h.eP,fun x hx=>h.made x (Q2 hx)⟩
def gZ.load{f:cG}{l:List (D aC)}(h:gZ f l)(s:aD):(ll f l s).1=(gK (aL f) s).1/\(ll f l s).2.2=(gK (aL f) s).2/\
  (ll f l s).2.1=((fO l s).2&&fP (aL f) (fO l s).1)/\((ll f l s).2.1=true->(gK (aL f) s).2=0):=by
 unfold ll;by_cases c:(fO l s).2=true/\fP (aL f) (fO l s).1=true
 ·rw[if_pos c]
  obtain⟨m1,m2⟩:=Fx c.1;have ha:=(h.made _ m1).XQ c.2;rw[m2]at ha;obtain⟨u1,u2,u3,u4⟩:=Fv h.eP (root:=s) (by rw[ha];rfl);rw[ha]at u2;rw[u2,u1,c.1,c.2];exact⟨rfl,rfl,rfl,fun _=>rfl⟩
 ·rw[if_neg c]
  refine⟨rfl,rfl,?_,fun e=>by cases e⟩;show false=_;exact(Bool.eq_false_iff.2 fun e=>c (by rw[Bool.and_eq_true]at e;exact e)).symm
def vN(x:Sh):Prop:=x.1.2.1.length<=99/\0<=(x.1.1:Int)/\(x.1.1:Int)<=1000000000/\dD x.2 1000000
def vO(l:List (D aC)):Prop:=∀i,i<l.length->(nth aC l i).2.1.length<=1000/\(nth aC l i).2.2.1.length<=1000
def lK(f:cG)(x:Sh)(s:aD):Sh×Int:=if(eI (aL f) s).2=0 then ky x (eI (aL f) s).1 else(x,(eI (aL f) s).2)
def Q3{f:cG}{x:Sh}{s:aD}(h:¬(eI (aL f) s).2=0):lK f x s=(x,(eI (aL f) s).2):=by unfold lK;rw[if_neg h]
def N5{f:cG}{x:Sh}{s:aD}(h:(eI (aL f) s).2=0):lK f x s=ky x (eI (aL f) s).1:=by unfold lK;rw[if_pos h]
def N6{f:cG}(g:gY f){s:aD}(h:(eI (aL f) s).2=0):(eI (aL f) s).1.2.1.length<=1000000/\(eI (aL f) s).1.2.2.1.length<=1000000:=by
 have:=lH (Fv g (root:=s) (aQ.2 h)).2.2.2;have h1:=this.p6;have h2:=this.CC;exact⟨by omega,by omega⟩
def Q4{l:List (D aC)}(h:vO l){s:aD}(hs:(fO l s).2=true):(fO l s).1.2.1.length<=1000:=by
 obtain⟨j,hj,e⟩:=gV (t:=aC) (Fx hs).1;rw[<-e];exact(h j hj).1
def vO.wide{l:List (D aC)}(h:vO l):∀i,i<l.length->(nth aC l i).2.1.length<=1000000/\(nth aC l i).2.2.1.length<=1000000:=fun i hi=>by
 have:=h i hi;omega
def Q5{f:cG}{l:List (D aC)}{s:aD}(h1:(fO l s).2=true)(h2:fP (aL f) (fO l s).1=true) :
  ll f l s=((kB (aL f) (fO l s).1).1,decide ((kB (aL f) (fO l s).1).2=0),(kB (aL f) (fO l s).1).2):=by unfold ll;rw[if_pos ⟨h1,h2⟩]
def xV{f:cG}{l:List (D aC)}{s:aD}(h:¬((fO l s).2=true/\fP (aL f) (fO l s).1=true)):ll f l s=((gK (aL f) s).1,false,(gK (aL f) s).2):=by unfold ll;rw[if_neg h]
def VP(n:Int):(aI n).isNil=decide (n=0):=by
 cases h:(aI n).isNil with
 |true=>rw[decide_eq_true (aQ.1 h)]
 |false=>rw[decide_eq_false fun e=>by rw[aQ.2 e]at h;cases h]
def mf.TW{x:Sh}{m:List (D aC)}{k:Nat}(h:mf x m k):vO x.1.2.1:=fun i hi=>by
 obtain⟨r,h1,h2,h3⟩:=h.at;rw[h.list]at hi ⊢;have h:=lH (h3.rh _ (dN (t:=aC) hi));have h1:=h.p6;have h2:=h.CC;exact⟨by omega,by omega⟩
def vP:Sh:=(((cP gv.2).1.1,(cP gv.2).1.2,()),gv.2)
def Af:vP=gv:=aj jH.again rfl
def wi:mf vP [] 0:=by rw[Af];exact jH
def IZ{d d':Dk}{b:Int}(hb:0<=b):∀n:Nat,(∀i,b.toNat<=i->i<b.toNat+n->nth .str d'.2.2.1 i=nth .str d.2.2.1 i)->iZ d' b n=iZ d b n
 |0,_=>by rw[GG,GG]
 |n+1,h=>by
  rw[CO,CO,IZ hb n fun i h1 h2=>h i h1 (by omega)];congr 1;exact h (b+(n:Int)).toNat (by omega) (by omega)
def dQ.move{d d':Dk}{r:Nat}{l:List (D aC)}(h:dQ d r l)(g:nN d')(q:d'.2.2.2.1=[])
  (hs:∀i,i=r % 2\/i=1-r % 2\/(2+r % 2*55<=i/\i<2+r % 2*55+55)->nth .str d'.2.2.1 i=nth .str d.2.2.1 i):dQ d' r l where
 eP:=g
 quiet:=q
 rh:=h.rh
 nT:=h.nT
 r2:=h.r2
 rM:=h.rM
 head:=by rw[hs _ (.inl rfl)];exact h.head
 other:=by
  have e:=hs (1-r % 2) (.inr (.inl rfl));have:=h.other;rw[o6]at this ⊢;rw[e];exact this
 text:=by
  rw[IZ (d:=d) (by omega) 55 fun i h1 h2=>hs i (.inr (.inr (by omega)))];exact h.text
def pP(d:Dk):Dk:=((-1,false,()),d.2.2.1,d.2.2.1,[],())
structure rQ (d:Dk) (r:Nat) (l:List (D aC)):Prop where
 down:d.1.2.1=false
 kC : -1<=(d.1.1:Int)
 kept:d.2.1=d.2.2.1
 quiet:d.2.2.2.1=[]
 jj:dQ (pP d) r l
def LQ{d:Dk}(h:d.1.2.1=false)(hf : -1<=(d.1.1:Int)):(∃f:Int,-1<=f/\stepOf d=(((f,false,()),d.2),0))\/stepOf d=(((-1,true,()),d.2),9):=by
 by_cases h0:d.1.1=0
 ·exact .inr (zJ h h0)
 ·left
  rw[EJ h h0 hf,h];refine⟨_,?_,rfl⟩;split <;> omega
def I0{d:Dk}{a:Int}{s:aD}(h:d.1.2.1=false)(hf : -1<=(d.1.1:Int))(h0:0<=a)(h1:a<d.2.2.1.length)(hs:s.length<=64) :
  (∃f:Int,-1<=f/\bK d a s=(((f,false,()),d.2.1,d.2.2.1.set a.toNat (cV s),d.2.2.2.1++[(a,cV s,())],()),0))\/bK d a s=(((-1,true,()),d.2),9):=by
 unfold bK;rw[if_neg (by omega)];rcases LQ h hf with⟨f,k1,k2⟩|k
 ·left;rw[k2,if_pos rfl];exact⟨f,k1,rfl⟩
 ·right;rw[k,if_neg (show ¬(9:Int)=0 by decide)]
def I1{d:Dk}(h:d.1.2.1=false)(hf : -1<=(d.1.1:Int)):(∃f:Int,-1<=f/\bL d=(((f,false,()),d.2.2.1,d.2.2.1,[],()),0))\/bL d=(((-1,true,()),d.2),9):=by
 unfold bL;rcases LQ h hf with⟨f,k1,k2⟩|k
 ·left;rw[k2,if_pos rfl];exact⟨f,k1,rfl⟩
 ·right;rw[k,if_neg (show ¬(9:Int)=0 by decide)]
def I2(bs:List Int):List aD->Int->List Nat->List aD
 |n,_,[]=>n
 |n,s,i :: r=>I2 bs (n.set s.toNat (cV (bytesOf (dR (t:=.int .u8) bs 64 i)))) (s+1) r
def Bg(bs:List Int)(i:Nat):(bytesOf (dR (t:=.int .u8) bs 64 i)).length<=64:=by rw[bytesOf,bb,pL];exact cp _ _
def CV(bs:List Int):∀(pre:List Nat) {d:Dk} {s:Int},nN d->0<=s->s+(pre.length:Int)<=d.2.2.1.length->(jZ bs d s pre).1.2.2.1=I2 bs d.2.2.1 s pre
 |[],_,_,_,_,_=>rfl
 |i :: r,d,s,g,h0,h1=>by
  rw[ae]at h1;obtain⟨w1,w2,w3⟩:=nO g (a:=s) h0 (by omega) (Bg bs i);rw[jZ,if_pos w1,CV bs r (s:=s+1) w3 (by omega) (by rw[w2,ab];omega),w2];rfl
def su(w:List (Int×List UInt8×Unit))(a b:Int):Prop:=∀x∈w,a<=x.1/\x.1<b/\x.2.1.length=64
def Q6(bs:List Int):∀(pre:List Nat) {d:Dk} {s:Int} {lo:Int},d.1.2.1=false->-1<=(d.1.1:Int)->0<=lo->lo<=s->s+(pre.length:Int)<=d.2.2.1.length->su d.2.2.2.1 lo s->
  (∃(f:Int) (w:List (Int×List UInt8×Unit)),-1<=f/\su w lo (s+pre.length)/\jZ bs d s pre=(((f,false,()),d.2.1,I2 bs d.2.2.1 s pre,w,()),0))\/
  (∃(n:List aD) (w:List (Int×List UInt8×Unit)),n.length=d.2.2.1.length/\su w lo (s+pre.length)/\jZ bs d s pre=(((-1,true,()),d.2.1,n,w,()),9))
 |[],d,s,lo,h,hf,_,_,_,hw=>by
  refine .inl ⟨d.1.1,d.2.2.2.1,hf,by rw[bp,show s+((0:Nat):Int)=s by omega];exact hw,?_⟩;rw[jZ,I2,<-h]
 |i :: r,d,s,lo,h,hf,h0,h1,h2,hw=>by
  rw[ae]at h2;rw[jZ];rcases I0 (a:=s) h hf (by omega) (by omega) (Bg bs i)with⟨f,k1,k2⟩|k
  ·rw[k2,if_pos rfl]
   have:=Q6 bs r (d:=((f,false,()),d.2.1,d.2.2.1.set s.toNat (cV (bytesOf (dR (t:=.int .u8) bs 64 i))),d.2.2.2.1++[(s,cV (bytesOf (dR (t:=.int .u8) bs 64 i)),())],())) (s:=s+1) (lo:=lo) rfl k1 h0 (by omega) (by show _<=((d.2.2.1.set _ _).length:Int);rw[ab];omega) (by
    intro x hx;rcases bj.1 hx with hx|hx
    ·have:=hw x hx;exact⟨this.1,by omega,this.2.2⟩
    ·rw[au.1 hx];exact⟨h1,by show s<s+1;omega,vM (Bg bs i)⟩)
   rw[ae,show s+((r.length+1:Nat):Int)=s+1+(r.length:Int) by omega];rcases this with h|⟨n,w,h1,h2⟩
   ·exact .inl h
   ·exact .inr ⟨n,w,h1.trans (ab ..),h2⟩
  ·right
   rw[k,if_neg (by show ¬(9:Int)=0;decide)];refine⟨d.2.2.1,d.2.2.2.1,rfl,fun x hx =>?_,rfl⟩;have:=hw x hx;rw[ae];exact⟨this.1,by omega,this.2.2⟩
def Fy{c:Int}{w:List (Int×List UInt8×Unit)}{k:List aD}{a b:Int}(ha:0<=a)(hw:su w a b){i:Nat}(hi:(i:Int)<a\/b<=(i:Int)):∀n,n<=w.length->nth .str (gB c w k n) i=nth .str k i
 |0,_=>rfl
 |n+1,hn=>by
  rw[gB];have ih:=Fy (c:=c) (k:=k) ha hw hi n (by omega);split
  ·have:=hw _ (dN (t:=fG) (xs:=w) (i:=n) (by omega))
   rw[kR (t:=.str) (by omega),ih]
  ·exact ih
def Fz{c:Int}{w:List (Int×List UInt8×Unit)}{k:List aD}{a b:Int}(hw:su w a b)(hk:∀i,i<k.length->(nth .str k i).length=64):∀n,n<=w.length->∀i,i<k.length->(nth .str (gB c w k n) i).length=64
 |0,_=>hk
 |n+1,hn=>fun i hi=>by
  rw[gB];have ih:=Fz (c:=c) hw hk n (by omega) i hi;split
  ·have:=hw _ (dN (t:=fG) (xs:=w) (i:=n) (by omega))
   by_cases e:(nth fG w n).1.toNat=i
   ·rw[e,lZ (t:=.str) (by rw[o3];exact hi)];exact this.2.2
   ·rw[kR (t:=.str) e];exact ih
  ·exact ih
def FA{d:Dk}{r:Nat}{l:List (D aC)}(h:rQ d r l){w:List (Int×List UInt8×Unit)}{n:List aD}{m:Nat}(hm:m<=55)(hw:su w (2+((1-r % 2:Nat):Int)*55) (2+((1-r % 2:Nat):Int)*55+(m:Int)))(c:Int) :
  dQ (gO ((-1,true,()),d.2.1,n,w,()) c) r l:=by
 have e:gO ((-1,true,()),d.2.1,n,w,()) c=((-1,false,()),gB c w d.2.1 w.length,gB c w d.2.1 w.length,[],()):=rfl;rw[e];have hs:=h.jj;have hk:d.2.1=(pP d).2.2.1:=h.kept;refine hs.move ⟨rfl,rfl,?_,fun i hi =>?_,rfl⟩ rfl fun i hi =>?_
 ·show 112<=(gB c w d.2.1 w.length).length
  rw[o3,hk];exact hs.eP.len
 ·have hi:i<(gB c w d.2.1 w.length).length:=hi
  rw[o3]at hi;refine Fz hw ?_ _ (ak _) i hi;rw[hk];exact hs.eP.sec
 ·show nth .str (gB c w d.2.1 w.length) i=_
  rw[Fy (by omega) hw (by omega) _ (ak _),hk]
def Bh(d:Dk):Prop:=d.2.1.length=d.2.2.1.length/\∀i,i<d.2.2.2.1.length->0<=((nth fG d.2.2.2.1 i).1:Int)/\((nth fG d.2.2.2.1 i).1:Int)<(d.2.2.1.length:Int)
def DR{d:Dk}(h:d.2.1.length=d.2.2.1.length){a b:Int}(hw:su d.2.2.2.1 a b)(ha:0<=a)(hb:b<=d.2.2.1.length):Bh d:=⟨h,fun i hi=>by
 have:=hw _ (dN (t:=fG) hi);exact⟨ax ha this.1,cu this.2.1 hb⟩⟩
def Q7(c a:Int)(x:aD)(k:List aD):gB c [(a,x,())] k 1=k\/gB c [(a,x,())] k 1=k.set a.toNat x:=by
 rw[gB];split
 ·right;rfl
 ·left;rfl
def Q8{d:Dk}{r:Nat}{l l':List (D aC)}(h:rQ d r l)(hf:∀e∈l',bC e=0)(hn:l'.length<=3)(hr:r+1<=1000000000) :
  ((cR d r l').2=0/\rQ (cR d r l').1 (r+1) l')\/((cR d r l').2=9/\(cR d r l').1.1.2.1=true/\Bh (cR d r l').1/\∀c,dQ (gO (cR d r l').1 c) r l\/dQ (gO (cR d r l').1 c) (r+1) l'):=by
 have hb:=tj hf;have ht:=CT hf;have hs:(dF l').length<=2256:=by have:=rD hf;omega
 have hlen:112<=d.2.2.1.length:=h.jj.eP.len;obtain⟨p,hp,hpd⟩:∃p:Nat,p<=1/\p=(r+1) % 2:=⟨_,by omega,rfl⟩
 have hm:((r:Int)+1).tmod 2=(p:Int):=by rw[av (by omega)];omega
 have hq:p=1-r % 2:=by omega
 have hN:(eB l').length=eY (dF l').length 64:=by unfold eB;rw[bd,ht,tK]
 have hN2:eY (dF l').length 64<=36:=by unfold eY;omega
 have ew:∀x:Dk,gR l' r x (eB l')=jZ (bE (dF l')) x (2+(p:Int)*55) (eB l'):=fun x=>by unfold gR;rw[ht,hm]
 have ef:∀x:Dk,uC l' r x=bL (gR l' r x (eB l')).1:=fun _=>rfl
 have eh:∀x:Dk,qV l' r x=bK (uC l' r x).1 (p:Int) (dU ((r:Int)+1) (dF l').length):=fun x=>by unfold qV;rw[ht,hm]
 obtain⟨hk0,hk1⟩:=VO h.jj hf hn hr;have g:=h.jj.eP;obtain⟨s1,s2,s3,s4,s5⟩:=Bf (bE (dF l')) (eB l') (s:=2+(p:Int)*55) g (by omega) (by show _<=(d.2.2.1.length:Int);rw[hN];omega);have s6:=CV (bE (dF l')) (eB l') (s:=2+(p:Int)*55) g (by omega) (by show _<=(d.2.2.1.length:Int);rw[hN];omega);rw[<-ew]at s1 s2 s3 s4 s5 s6;obtain⟨N,hNd⟩:∃N,N=I2 (bE (dF l')) d.2.2.1 (2+(p:Int)*55) (eB l'):=⟨_,rfl⟩
 have s6:(gR l' r (pP d) (eB l')).1.2.2.1=N:=by rw[hNd];exact s6
 rw[s6]at s3 s4 s5;have s3:N.length=d.2.2.1.length:=s3;have hNsec:∀i,i<N.length->(nth .str N i).length=64:=by have:=s2.sec;rw[s6]at this;exact this
 obtain⟨t1,t2,t3⟩:=nP s2;obtain⟨u1,u2,u3⟩:=nO t3 (a:=(p:Int)) (s:=dU ((r:Int)+1) (dF l').length) (by omega) (by rw[t2,s6,s3];omega) (by rw[qU];decide);obtain⟨v1,v2,v3⟩:=nP u3;have hfin:(cR (pP d) r l').1.2.2.1=N.set p (cV (dU ((r:Int)+1) (dF l').length)):=by
  have:cR (pP d) r l'=bL (qV l' r (pP d)).1:=by
   unfold cR;rw[if_neg (not_not_intro hb),if_neg (not_not_intro s1),if_neg (not_not_intro (show(uC l' r (pP d)).2=0 from t1)),if_neg (not_not_intro (by rw[eh];exact u1))]
  rw[this,eh,ef,v2,u2,t2,s6,ah]
 have hout:∀i,i=r % 2\/i=1-r % 2\/(2+r % 2*55<=i/\i<2+r % 2*55+55)->nth .str N i=nth .str (pP d).2.2.1 i:=fun i hi=>by
  apply s5;rw[hN];omega
 have atN:∀x:Dk,x.1=(-1,false,())->x.2.1=N->x.2.2.1=N->x.2.2.2.1=[]->dQ x r l:=fun x e1 e2 e3 e4=>by
  refine h.jj.move ⟨by rw[e1],by rw[e1],by rw[e3,s3];exact hlen,by rw[e3];exact hNsec,by rw[e2,e3]⟩ e4 fun i hi=>by rw[e3];exact hout i hi
 have UT:∀x:Dk,x.1=(-1,false,())->x.2.1=x.2.2.1->x.2.2.1=N.set p (cV (dU ((r:Int)+1) (dF l').length))->x.2.2.2.1=[]->dQ x (r+1) l':=fun x e1 e2 e3 e4=>by
  refine hk1.move ⟨by rw[e1],by rw[e1],?_,fun i hi =>?_,by rw[e2]⟩ e4 fun i _=>by rw[e3,hfin]
  ·rw[e3,ab,s3];exact hlen
  ·have:=hk1.eP.sec i
   rw[hfin,<-e3]at this;exact this hi
 rcases Q6 (bE (dF l')) (eB l') (d:=d) (s:=2+(p:Int)*55) (lo:=2+(p:Int)*55) h.down h.kC (by omega) (ao _) (by rw[hN];omega) (by rw[h.quiet];intro x hx;cases hx)with⟨f,w,f1,w1,k⟩|⟨n,w,wn,w1,k⟩
 case inr=>
  rw[<-ew]at k;right;have ek:cR d r l'=(((-1,true,()),d.2.1,n,w,()),9):=by
   unfold cR;rw[if_neg (not_not_intro hb),k,if_pos (show(9:Int)≠0 by decide)]
  rw[ek];refine⟨rfl,rfl,DR (by show d.2.1.length=n.length;rw[h.kept,wn]) w1 (by omega) (by show _<=(n.length:Int);rw[wn,hN];omega),fun c =>.inl (FA h (m:=(eB l').length) (by omega) ?_ c)⟩;rw[<-hq];exact w1
 rw[<-ew,<-hNd]at k;have hw0:(gR l' r d (eB l')).2=0:=by rw[k]
 rcases I1 (d:=((f,false,()),d.2.1,N,w,())) rfl f1 with⟨f2,f3,k2⟩|k2
 case inr=>
  right;have ek:cR d r l'=(((-1,true,()),d.2.1,N,w,()),9):=by
   unfold cR;rw[if_neg (not_not_intro hb),if_neg (not_not_intro hw0),ef,k,k2,if_pos (show(9:Int)≠0 by decide)]
  rw[ek];refine⟨rfl,rfl,DR (by show d.2.1.length=N.length;rw[h.kept,s3]) w1 (by omega) (by show _<=(N.length:Int);rw[s3,hN];omega),fun c =>.inl (FA h (m:=(eB l').length) (by omega) ?_ c)⟩;rw[<-hq];exact w1
 have hfl:uC l' r d=(((f2,false,()),N,N,[],()),0):=by rw[ef,k];exact k2
 rcases I0 (d:=((f2,false,()),N,N,[],())) (a:=(p:Int)) (s:=dU ((r:Int)+1) (dF l').length) rfl f3 (by omega) (by show _<(N.length:Int);rw[s3];omega) (by rw[qU];decide)with⟨f4,f5,k3⟩|k3
 case inr=>
  right;have ek:cR d r l'=(((-1,true,()),N,N,[],()),9):=by
   unfold cR;rw[if_neg (not_not_intro hb),if_neg (not_not_intro hw0),hfl,if_neg (not_not_intro rfl),eh,hfl,k3,if_pos (show(9:Int)≠0 by decide)]
  rw[ek];exact⟨rfl,rfl,⟨rfl,fun i hi=>absurd hi (bk _)⟩,fun c =>.inl (atN _ rfl rfl rfl rfl)⟩
 have hhd:qV l' r d=(((f4,false,()),N,N.set p (cV (dU ((r:Int)+1) (dF l').length)),[((p:Int),cV (dU ((r:Int)+1) (dF l').length),())],()),0):=by
  rw[eh,hfl,k3,ah];rfl
 have ek0:cR d r l'=bL (qV l' r d).1:=by
  unfold cR;rw[if_neg (not_not_intro hb),if_neg (not_not_intro hw0),if_neg (not_not_intro (by rw[hfl])),if_neg (not_not_intro (by rw[hhd]))]
 rcases I1 (d:=((f4,false,()),N,N.set p (cV (dU ((r:Int)+1) (dF l').length)),[((p:Int),cV (dU ((r:Int)+1) (dF l').length),())],())) rfl f5 with⟨f6,f7,k4⟩|k4
 ·left
  rw[ek0,hhd,k4];exact⟨rfl,rfl,f7,rfl,rfl,UT _ rfl rfl rfl rfl⟩
 ·right
  rw[ek0,hhd,k4];refine⟨rfl,rfl,DR (a:=(p:Int)) (b:=(p:Int)+1) (ab ..).symm (fun x hx=>by rw[au.1 hx];exact⟨ao _,by show(p:Int)<(p:Int)+1;omega,vM (by rw[qU];decide)⟩) (by omega) (by show _<=((N.set _ _).length:Int);rw[ab,s3];omega),fun c =>?_⟩;rcases Q7 c (p:Int) (cV (dU ((r:Int)+1) (dF l').length)) N with e|e
  ·exact .inl (atN _ rfl e e rfl)
  ·refine .inr (UT _ rfl rfl (e.trans (by rw[ah])) rfl)
structure iU (x:Sh) (m:List (D aC)) (k:Nat):Prop where
 list:x.1.2.1=m
 names:(m.map (·.1)).Nodup
 qh:∃r:Nat,(x.1.1:Int)=(r:Int)/\r<=2+k/\rQ x.2 r m
structure N7 (d:Dk) (a b:List (D aC)) (k:Nat):Prop where
 down:d.1.2.1=true
 pre:Bh d
 an:(a.map (·.1)).Nodup
 bn:(b.map (·.1)).Nodup
 keeps:∀c,∃r:Nat,r<=2+k/\(dQ (gO d c) r a\/dQ (gO d c) r b)
def iU.next{x:Sh}{m:List (D aC)}{k:Nat}(h:iU x m k):iU x m (k+1):=⟨h.list,h.names,let⟨r,h1,h2,h3⟩:=h.qh;⟨r,h1,by omega,h3⟩⟩
def vQ{x:Sh}{m l:List (D aC)}{k:Nat}(h:iU x m k)(hk:k<=1000)(hf:∀e∈l,bC e=0)(hl:l.length<=3)(hn:(l.map (·.1)).Nodup) :
  ((pN x l).2=0/\iU (pN x l).1 l (k+1))\/((pN x l).2=9/\N7 (pN x l).1.2 m l (k+1)):=by
 obtain⟨r,h1,h2,h3⟩:=h.qh;unfold pN;rw[show(x.1.1:Int)=(r:Int)from h1];rcases Q8 h3 hf hl (by omega)with⟨k1,k2⟩|⟨k1,k2,kp,k3⟩
 ·left
  rw[if_pos k1];exact⟨k1,rfl,hn,r+1,rfl,by omega,k2⟩
 ·right
  refine⟨k1,k2,kp,h.names,hn,fun c =>?_⟩;rcases k3 c with k4|k4
  ·exact⟨r,by omega,.inl k4⟩
  ·exact⟨r+1,by omega,.inr k4⟩
def TX{x:Sh}{m:List (D aC)}{k:Nat}(h:iU x m k)(hk:k<=1000)(e:D aC) :
  ((ky x e).2=(oT m e).2/\iU (ky x e).1 (oT m e).1 (k+1))\/((ky x e).2=9/\(oT m e).2=0/\N7 (ky x e).1.2 m (oT m e).1 (k+1)):=by
 obtain⟨r,h1,h2,h3⟩:=h.qh;have hl:=h.list;have h3:=h3.jj;by_cases hf:bC e=0
 ·rcases DQ m e.1 with⟨i,i1,i2,i3,i4⟩|⟨j1,j2⟩
  ·rw[LM hf (by rw[hl,i4];omega),hl,i4,TI (by omega) i1 i2 i3,ah]
   rcases vQ h hk (l:=m.set i e) (TT h3.rh hf) (by rw[ab];exact h3.nT) (by rw[QZ i1 i3];exact h.names)with z|z
   ·exact .inl z
   ·exact .inr ⟨z.1,rfl,z.2⟩
  ·by_cases c:(m.length:Int)=3
   ·rw[IN hf (by rw[hl,j2];omega) (by rw[hl];exact c),QN (by omega) j1 c]
    exact .inl ⟨rfl,h.next⟩
   ·rw[DN hf (by rw[hl,j2];omega) (by rw[hl];exact c),hl,TJ (by omega) j1 c]
    have hn:((m++[e]).map (·.1)).Nodup:=by
     rw[List.map_append,List.nodup_append];refine⟨h.names,by simp,fun a ha b hb hab =>?_⟩;rw[List.map_singleton,au]at hb;exact IW j1 (by rw[<-hb,<-hab];exact ha)
    rcases vQ h hk (l:=m++[e]) (fun y hy=>by
     rcases bj.1 hy with hy|hy
     ·exact h3.rh y hy
     ·rw[au.1 hy];exact hf) (by rw[ad,b6];have:=h3.nT;omega) hn with z|z
    ·exact .inl z
    ·exact .inr ⟨z.1,rfl,z.2⟩
 ·have:=Gk e
  rw[Fm hf,NZ (by omega)];exact .inl ⟨rfl,h.next⟩
def Q9{x:Sh}{m:List (D aC)}{k:Nat}(h:iU x m k)(hk:k<=1000)(s:aD) :
  ((gC x s).2=(pO m s).2/\iU (gC x s).1 (pO m s).1 (k+1))\/((gC x s).2=9/\(pO m s).2=0/\N7 (gC x s).1.2 m (pO m s).1 (k+1)):=by
 obtain⟨r,h1,h2,h3⟩:=h.qh;have hl:=h.list;have h3:=h3.jj;rcases DQ m s with⟨i,i1,i2,i3,i4⟩|⟨j1,j2⟩
 ·have e:=IX h.names i1 i3
  have el:(m.eraseIdx i).length=m.length-1:=by rw[List.length_eraseIdx,if_pos i1]
  have ed:pO m s=(m.eraseIdx i,0):=by unfold pO;rw[if_neg (by rw[e,el];omega),e]
  have es:gC x s=pN x (m.eraseIdx i):=by unfold gC;rw[if_pos (by rw[hl,i4];omega),hl,i4,ah]
  rw[es,ed];rcases vQ h hk (l:=m.eraseIdx i) (fun y hy=>h3.rh y (List.mem_of_mem_eraseIdx hy)) (by rw[el];have:=h3.nT;omega) (h.names.sublist ((List.eraseIdx_sublist m i).map _))with z|z
  ·exact .inl z
  ·exact .inr ⟨z.1,rfl,z.2⟩
 ·have e:=CU (IW j1)
  have ed:pO m s=(m,5):=by unfold pO;rw[if_pos (by rw[e])]
  have es:gC x s=(x,5):=by unfold gC;rw[if_neg (by rw[hl,j2];omega)]
  rw[es,ed];exact .inl ⟨rfl,h.next⟩
def Gm{d:Dk}(h:d.2.2.2.1=[])(c:Int):gO d c=((-1,false,()),d.2.1,d.2.1,[],()):=by unfold gO;rw[h];rfl
def Gn{d:Dk}{r:Nat}{l:List (D aC)}(h:rQ d r l)(c:Int):dQ (gO d c) r l:=by
 rw[Gm h.quiet,h.kept];exact h.jj
def Ra{d:Dk}{r:Nat}{l:List (D aC)}(h:dQ d r l)(hk:d.2.1=d.2.2.1)(n:Int):rQ (AR d n) r l:=by
 refine⟨h.eP.down,?_,hk,h.quiet,?_⟩
 ·show -1<=Dl n (-1);unfold Dl;split <;> omega
 ·have e:pP (AR d n)=((-1,false,()),d.2.2.1,d.2.2.1,[],()):=rfl
  rw[e];exact h.move ⟨rfl,rfl,h.eP.len,h.eP.sec,rfl⟩ rfl fun i _=>rfl
def iU.xW{x:Sh}{m:List (D aC)}{k:Nat}(h:iU x m k):Bh x.2:=by
 obtain⟨r,h1,h2,h3⟩:=h.qh;exact⟨by rw[h3.kept],fun i hi=>by rw[h3.quiet]at hi;exact absurd hi (bk _)⟩
def iU.nT{x:Sh}{m:List (D aC)}{k:Nat}(h:iU x m k):x.1.2.1.length<=3:=by rw[h.list];let⟨_,_,_,h3⟩:=h.qh;exact h3.jj.nT
def iU.VQ{x:Sh}{m:List (D aC)}{k:Nat}(h:iU x m k)(hk:k<=1000):x.1.2.1.length<=99/\0<=(x.1.1:Int)/\(x.1.1:Int)<=1000000000/\dD x.2 1000000:=by
 obtain⟨r,h1,h2,h3⟩:=h.qh;refine⟨a8 h.nT (by decide),by omega,by omega,h3.kC,by rw[h3.quiet];exact br _,by rw[h3.kept]⟩
def nt(d:Dk)(c:Int):Dk:=ch (⟨gO d c,rfl⟩:∃y,y=gO d c)
def Ag(d:Dk)(c:Int):nt d c=gO d c:=cj (⟨gO d c,rfl⟩:∃y,y=gO d c)
def Rb{d:Dk}{r:Nat}{l:List (D aC)}(h:dQ d r l)(hn:(l.map (·.1)).Nodup){k:Nat}(hr:r<=2+k):mf (((cP d).1.1,(cP d).1.2,()),d) l k:=by
 rw[h.opens];exact⟨rfl,hn,r,rfl,hr,h⟩
def N8{d:Dk}(h:(bL d).2=0):(bL d).1.2.1=(bL d).1.2.2.1:=by
 by_cases c:(stepOf d).2=0
 ·rw[EK c]
 ·rw[zK c]at h;exact absurd h c
def I3:gv.2.2.1=gv.2.2.2.1:=by
 have e:iX (rb 112)=gI (rb 112):=me _;have h0:(gI (rb 112)).2=0:=by rw[<-e];exact(qX (ss (ao _))).1
 show(iX (rb 112)).1.2.1=(iX (rb 112)).1.2.2.1;rw[e];unfold gI at h0 ⊢;split at h0
 ·cases h0
 ·split at h0
  ·rename_i c;exact absurd h0 c
  ·split at h0
   ·rename_i c;exact absurd h0 c
   ·split at h0
    ·rename_i c;exact absurd h0 c
    ·rename_i c1 c2 c3 c4
     rw[if_neg c1,if_neg c2,if_neg c3,if_neg c4];exact N8 h0
def Rc(n:Int):iU (gv.1,AR gv.2 n) [] 0:=by
 obtain⟨r,h1,h2,h3⟩:=jH.at;refine⟨rfl,ct,r,?_,h2,Ra h3 I3 n⟩;rw[show gv.1=_ from h1]
def iU.self{x:Sh}{m:List (D aC)}{k:Nat}(h:iU x m k):iU x x.1.2.1 k:=by rw[h.list];exact h
noncomputable abbrev I4 (c:Int) (d:Dk):Sh:=(((cP (nt d c)).1.1,(cP (nt d c)).1.2,()),nt d c)
def gZ.done{l:List (D aC)}:∀(a:List (D bT)) {f:cG},gZ f l->gZ (jh f a) l
 |[],_,h=>h
 |a :: r,f,h=>by
  have:gZ (mL f a) l:=by
   unfold mL;split
   ·exact h.write _ _
   ·split
    ·exact h.remove _
    ·exact h
  exact gZ.done r this
def TY{rd:Rd}{s:aD}{n:Int}(h:rd s=(A7,n,0)):gK rd s=([(s,0,[3],())],0):=by
 refine Qe (Qf h Xt rfl) (bs:=[0]) (ps:=[(0,0,3,())]) (w:=[[3]]) rfl ?_ rfl rfl ?_ rfl
 ·rw[Dz rfl (by
   intro i hi;obtain rfl:i=0:=by simp at hi;omega
   simp[nth])]
  have h1:gX [WX] [0] 0 (0,1,3,[],false,())=(3,.nil):=(AQ rfl).trans (DA (by decide) rfl (by decide));simp[nS,oh,oD,h1,aK.isNil]
 ·intro i hi
  obtain rfl:i=0:=by simp at hi;omega
  unfold uj;decide
def Re:cG:=(cL qz [122,122] A7).1
def I5:cG:=(fL Re [122,122]).1
def VS:aL Re [122,122]=(A7,1,0):=by decide
def VT:gK (aL Re) [122,122]=([([122,122],0,[3],())],0):=TY VS
def TZ:gY Re:=gY.new.write _ _
def W4:cG:=((0+1,()),(eZ cK [] [122,122] (A7,0+1,()) 0,mT cK [] [122,122] 0,()),())
def U4:Re=W4:=rfl
def VU:W4.2.1.1.length<=6:=by rw[<-U4];exact TZ.st.pre.1
def DS:ll W4 vP.1.2.1 [122,122]=([([122,122],0,[3],())],false,0):=by
 rw[show vP.1.2.1=[]from wi.list,xV (fun z=>by rw[IP (o5 _)]at z;exact Bool.noConfusion z.1),<-U4,VT]
def VV:gZ I5 []:=(gZ.new.write _ _).remove _
structure hH (f:cG) (x:Sh) (k:Nat):Prop where
 kept:gZ f x.1.2.1
 jj:iU x x.1.2.1 k
def rE(f:cG)(d:Dk)(k:Nat):Prop:=∃a b,N7 d a b k/\gZ f a/\gZ f b
def iU.up{x:Sh}{m:List (D aC)}{k k':Nat}(h:iU x m k)(hk:k<=k'):iU x m k':=⟨h.list,h.names,let⟨r,h1,h2,h3⟩:=h.qh;⟨r,h1,by omega,h3⟩⟩
def hH.up{f:cG}{x:Sh}{k k':Nat}(h:hH f x k)(hk:k<=k'):hH f x k':=⟨h.kept,h.jj.up hk⟩
def hH.round{f:cG}{x:Sh}{k:Nat}(h:hH f x k):0<=(x.1.1:Int)/\(x.1.1:Int)<=2+k:=by
 obtain⟨r,h1,h2,_⟩:=h.jj.qh;omega
def hH.exact{f:cG}{x:Sh}{k:Nat}(h:hH f x k):hH f x (x.1.1:Int).toNat:=⟨h.kept,h.jj.list,h.jj.names,let⟨r,h1,h2,h3⟩:=h.jj.qh;⟨r,h1,by omega,h3⟩⟩
def hH.done{f:cG}{x:Sh}{k:Nat}(h:hH f x k)(a:List (D bT)):hH (jh f a) x k:=⟨h.kept.done a,h.jj⟩
def hH.W5{f:cG}{x:Sh}{k:Nat}(h:hH f x k)(hk:k<=1000):vN x:=h.jj.VQ hk
def hH.xW{f:cG}{x:Sh}{k:Nat}(h:hH f x k):Bh x.2:=h.jj.xW
def rE.down{f:cG}{d:Dk}{k:Nat}(h:rE f d k):d.1.2.1=true:=let⟨_,_,h1,_⟩:=h;h1.down
def rE.xW{f:cG}{d:Dk}{k:Nat}(h:rE f d k):Bh d:=let⟨_,_,h1,_⟩:=h;h1.pre
def hH.build{f:cG}{x:Sh}{k:Nat}(h:hH f x k)(hk:k<=1000)(s:aD):hH f (lK f x s).1 (k+1)\/rE f (lK f x s).1.2 (k+1):=by
 unfold lK;split
 ·rename_i hm
  have kp:=h.kept.put hm;rcases TX h.jj hk (eI (aL f) s).1 with z|z
  ·left;exact⟨by rw[z.2.list];exact kp,z.2.self⟩
  ·right;exact⟨_,_,z.2.2,h.kept,kp⟩
 ·left;exact h.up (by omega)
def hH.drop{f:cG}{x:Sh}{k:Nat}(h:hH f x k)(hk:k<=1000)(s:aD):hH f (gC x s).1 (k+1)\/rE f (gC x s).1.2 (k+1):=by
 rcases Q9 h.jj hk s with z|z
 ·left;exact⟨by rw[z.2.list];exact h.kept.drop s,z.2.self⟩
 ·right;exact⟨_,_,z.2.2,h.kept,h.kept.drop s⟩
def T0(n:Int):hH I5 (gv.1,AR gv.2 n) 0:=⟨VV,Rc n⟩
def T3(c:Int)(f:cG)(d:Dk):Prop:=gZ f (I4 c d).1.2.1/\mf (I4 c d) (I4 c d).1.2.1 200
def vR{d:Dk}{c:Int}{r:Nat}{l:List (D aC)}(h:dQ (gO d c) r l)(hn:(l.map (·.1)).Nodup){k:Nat}(hr:r<=2+k):mf (I4 c d) l k:=Rb (by rw[Ag];exact h) hn hr
def hH.ends{f:cG}{x:Sh}{k:Nat}(h:hH f x k)(hk:k<=200)(c:Int):T3 c f x.2:=by
 obtain⟨r,h1,h2,h3⟩:=h.jj.qh;have hB:=vR (Gn h3 c) h.jj.names (k:=200) (by omega);have e:(I4 c x.2).1.2.1=x.1.2.1:=hB.list;exact⟨by rw[e];exact h.kept,by rw[e];exact hB⟩
def rE.ends{f:cG}{d:Dk}{k:Nat}(h:rE f d k)(hk:k<=200)(c:Int):T3 c f d:=by
 obtain⟨a,b,h1,h2,h3⟩:=h;obtain⟨r,k1,k2|k2⟩:=h1.keeps c
 ·have hB:=vR k2 h1.an (k:=200) (by omega)
  have e:(I4 c d).1.2.1=a:=hB.list;exact⟨by rw[e];exact h2,by rw[e];exact hB⟩
 ·have hB:=vR k2 h1.bn (k:=200) (by omega)
  have e:(I4 c d).1.2.1=b:=hB.list;exact⟨by rw[e];exact h3,by rw[e];exact hB⟩
end Go.Mrl

namespace Go.Vg
open Go
def KF{H:Type}{enc:TypeId×Value->H}{a:Assume}{C:Checked}{os:Os}{f:FuncId}{fn:Func}{s:ChangeSpec}{conds:List PathCond}{apart fresh handsOn again:Bool}{X:World->Array Value->Prop}
  (hX:∀(w w':World) (args:Array Value),w.heap=w'.heap->X w args->X w' args)
  (own:ownKnob C.prog.godebug=none)(started:os.Started)(noInit:C.prog.inits.idxOf? f=none)(hfn:C.prog.funcs[f]?=some fn)
  (witness:∃(w:World) (tape:Tape) (i:Input),w.os=os/\(w.forCall tape i).Shaped C.prog/\i.vars=[]/\Input.okWide C.prog (w.forCall tape i) .any w.heap.size f i/\
   ((s.pre enc C.prog fn conds apart (w.forCall tape i).memory i.args/\X (w.forCall tape i).memory i.args)/\sizedMet enc C.prog fn (cw s) apart (w.forCall tape i).memory i.args)/\a.holds C.prog (lone (Frame.enter C.prog f i.args .normal) [] (w.forCall tape i)))
  (contract:∀(W:World) (base:Nat) (args:Array Value) (ds gs:List (DataW H)) (before:List MemPlace),
   (∀(j:Nat) t v,fn.params[j]?=some t->args[j]?=some v->Value.okWide C.prog W .any base t v)->
   DataW.Whole enc C.prog fn.params.toList s.vars apart W args.toList ds gs before->
   X W args->W.ShapedOpen C.prog->
   Calls C.prog f args W fun e W'=>∃v,e=.returned v/\s.post enc C.prog fn apart fresh handsOn again W args v W') :
  ReturnsInHanded a C os f .any (fun w args=>(s.pre enc C.prog fn conds apart w args/\X w args)/\sizedMet enc C.prog fn (cw s) apart w args) (s.post enc C.prog fn apart fresh handsOn again):=by
 refine returnsInHanded_of_calls own started noInit witness ?_;intro w tape i _ hsh _ hok hpre hholds;obtain⟨_,_,_,fn',hfn',_,_,_,_,hval⟩:=hok;have e:fn'=fn:=ay (hfn'.symm.trans hfn);subst e;obtain⟨⟨⟨ds,gs,before,hw,hc⟩,hx⟩,hz⟩:=hpre;have hw':=DataW.Whole.of_heap (w':=w.forCall tape i) (by rfl) hw;refine(contract (w.forCall tape i) w.heap.size i.args ds gs before hval hw' (hX _ _ _ (by rfl) hx) hsh).mono fun e W' ⟨v,he,hp⟩ =>?_
 subst he;exact ChangeSpec.post_blind hp
def I6{P:Program}{w:World}{g:Nat}{t:TypeId}{zero:Array Value}(h:w.ShapedOpen P)(hg:g<P.globals.size)
  (h0:((begin P (fun _ _=>0) default).world.heap[g]?).bind Obj.row?=some (zero,t))(hz:zero.size=1)
  (hb:P.buildable t=true)(hc:P.cellTypes P.depth t=some [t])(hu:P.underlying t=some (.int .i64)):∃m,w.cell? ⟨g,0,none⟩=some (.int .i64 m):=by
 obtain⟨cs,hh,hs,hr⟩:=h.1 g zero t hg h0;obtain⟨ts,hts,_,hall⟩:=hr hb;rw[hc]at hts;cases hts;have h1:0<cs.size:=by omega
 obtain⟨u,hu',hok⟩:=hall 0 cs[0] (by simp[h1]);have:u=t:=by simpa using hu'.symm
 subst this;have hcell:w.cell? ⟨g,0,none⟩=some cs[0]:=by simp[World.cell?,hh,h1]
 rw[hcell];unfold Cell.ok at hok;rw[hu]at hok;cases hv:cs[0] <;> rw[hv]at hok <;> first|exact hok.elim|(obtain⟨rfl,_⟩:=hok;exact⟨_,rfl⟩)|simp at hok
def U5:Option TypeDesc->Bool
 |some (.interface _)=>true
 |_=>false
def uE{P:Program}{W:World}{name nm:String}{d:DataW Unit}{g:Nat}{t:TypeId}
  (hg:P.globalNamed name=some g)(hty:(P.globals[g]?).map (·.type)=some t)(hi:U5 (P.underlying t)=true)
  (h:Lib.VarReads P W name (.iface nm d)):∃ev,W.cell? ⟨g,0,none⟩=some ev/\(ev=.nilIface\/∃te pe,ev=.iface te pe):=by
 obtain⟨g',t',cs,fuel,p,hg',ht',hvar,hd⟩:=h;obtain rfl:=ay (hg.symm.trans hg');obtain rfl:=ay (hty.symm.trans ht');have hc:=World.var?_cell hg hvar 0;obtain⟨ms,hu⟩:∃ms,P.underlying t=some (.interface ms):=by
  unfold U5 at hi;split at hi
  ·rename_i ms hm;exact⟨ms,hm⟩
  ·cases hi
 cases fuel with
 |zero=>simp[cd]at hd
 |succ n=>
  cases hl:cs.toList with
  |nil=>rw[hl]at hd;simp[cd,hu]at hd
  |cons v r=>
   have h0:cs[0]?=some v:=by rw[<-Array.getElem?_toList,hl];rfl
   rw[h0]at hc;refine⟨v,hc,?_⟩;rw[hl]at hd;cases v <;> first|exact .inl rfl|exact .inr ⟨_,_,rfl⟩|(simp[cd,hu]at hd)
def I7{P:Program}{W:World}{name:String}{k:IntKind}{zs:List Int}{g:Nat}{t e:TypeId}{n:Nat}
  (hg:P.globalNamed name=some g)(hty:(P.globals[g]?).map (·.type)=some t)(ht:P.underlying t=some (.array n e))(he:P.underlying e=some (.int k))(hce:P.cellsOf e=1)(hct:P.cellsOf t=n)
  (h:Lib.VarReads P W name (Lib.tabData k zs)):Lib.TabIs P W name k zs:=by
 obtain⟨g',t',cs,fuel,p,hg',ht',hvar,hd⟩:=h;obtain rfl:=ay (hg.symm.trans hg');obtain rfl:=ay (hty.symm.trans ht');unfold Lib.TabIs;rw[hvar,<-Lib.cells_of_tab ht he hce hct hd]
end Go.Vg

namespace Go.Mrl
open Go.Vg
def N9:aD:=[111,112,101,110]
structure fF (r:Int) (l:List (D bT)) (i:Nat) (f:cG) (x:Sh):Prop where
 one:l.length<=1
 no:∀j,j<l.length->¬(nth bT l j).1=N9
 st:hH f x (r.toNat+i)\/(0<i/\rE f x.2 (r.toNat+i))
def fF.Ah{r:Int}{l:List (D bT)}{i:Nat}{f:cG}{x:Sh}(h:fF r l i f x)(hi:i<l.length):hH f x (r.toNat+i):=by
 have:=h.one;rcases h.st with z|z
 ·exact z
 ·have:=z.1;omega
def fF.start{f:cG}{x:Sh}{k:Nat}(h:hH f x k){l:List (D bT)}(h1:l.length<=1)(h2:∀j,j<l.length->¬(nth bT l j).1=N9):fF x.1.1 l 0 f x:=
 ⟨h1,h2,.inl h.exact⟩
def fF.build{r:Int}{l:List (D bT)}{i:Nat}{f:cG}{x:Sh}(h:fF r l i f x)(hi:i<l.length)(hr:r<=900)(s:aD):fF r l (i+1) f (lK f x s).1:=
 ⟨h.one,h.no,match(h.Ah hi).build (by have:=h.one;omega) s with
  |.inl z =>.inl z
  |.inr z =>.inr ⟨Nat.succ_pos _,z⟩⟩
def fF.drop{r:Int}{l:List (D bT)}{i:Nat}{f:cG}{x:Sh}(h:fF r l i f x)(hi:i<l.length)(hr:r<=900)(s:aD):fF r l (i+1) f (gC x s).1:=
 ⟨h.one,h.no,match(h.Ah hi).drop (by have:=h.one;omega) s with
  |.inl z =>.inl z
  |.inr z =>.inr ⟨Nat.succ_pos _,z⟩⟩
def fF.done{r:Int}{l:List (D bT)}{i:Nat}{f:cG}{x:Sh}(h:fF r l i f x)(hi:i<l.length)(a:List (D bT)):fF r l (i+1) (jh f a) x:=
 ⟨h.one,h.no,.inl (((h.Ah hi).done a).up (by omega))⟩
def LR{l:List (D bT)}{i:Nat}(h:i<l.length):(ag i (af (aw ((i:Int)+1)) l)).length=1:=by
 rw[bw,al];omega
def VW{l:List (D bT)}{i:Nat}(h:i<l.length):nth bT (ag i (af (aw ((i:Int)+1)) l)) 0=nth bT l i:=by
 refine iF (t:=bT) ?_;rw[List.getElem?_drop,List.getElem?_take];rw[if_pos (by omega),bt];exact mZ (t:=bT) h
def fF.begin{f:cG}{x:Sh}{k:Nat}(h:hH f x k){l:List (D bT)}{i:Nat}(hi:i<l.length)(h2:¬(nth bT l i).1=N9):fF x.1.1 (ag i (af (aw ((i:Int)+1)) l)) 0 f x:=
 .start h (by rw[LR hi];exact ak _) fun j hj=>by
  rw[LR hi]at hj;have:j=0:=by omega
  subst this;rw[VW hi];exact h2
def fF.up{r:Int}{l:List (D bT)}{i:Nat}{f:cG}{x:Sh}(h:fF r l i f x)(hd:x.2.1.2.1=false){k:Nat}(hk:r.toNat+i<=k):hH f x k:=by
 rcases h.st with z|z
 ·exact z.up hk
 ·rw[z.2.down]at hd;cases hd
def fF.xW{r:Int}{l:List (D bT)}{i:Nat}{f:cG}{x:Sh}(h:fF r l i f x):Bh x.2:=by
 rcases h.st with z|z
 ·exact z.xW
 ·exact z.2.xW
def fF.ends{r:Int}{l:List (D bT)}{i:Nat}{f:cG}{x:Sh}(h:fF r l i f x)(hk:r.toNat+i<=200)(c:Int):T3 c f x.2:=by
 rcases h.st with z|z
 ·exact z.ends hk c
 ·exact z.2.ends hk c
end Go.Mrl

