/- A part of the proof that the law TopFreshCard holds of the given program: facts that are used there. -/
import Derived.Test.YtgokjhhcfemnhadGreatDoorPart2
import Derived.Handed
import Derived.Clock
import Derived.Lib.LaidTab
import Derived.Lib.LaidU8
import Derived.Lay
set_option linter.unusedSimpArgs false
set_option linter.unusedVariables false
set_option linter.defProp false
noncomputable section
open List renaming length_append->ab,length_set->ad,take->ae,length_cons->af,drop->ai,length_take->ak,mem_map->ao,range->ar,length_map->a7,map_cons->a8,length_singleton->bd,take_length->bf,mem_singleton->bg,cons_append->bm,length_range->bo,filter_append->br,filter_cons->bw,mem_append->bx,replicate->bz,nodup_cons->b5,mem_cons->b8,nil_append->b9,length_nil->cc,length_drop->cd,append_assoc->cf,filter_eq_self->cg,ext_getElem?->cj,mem_or_eq_of_mem_set->ck,map_append->cm,length_eraseIdx->cn,all_append->cp,all_eq_true->cq
open Int renaming toNat_natCast->ag,le_refl->ay,tmod_eq_emod_of_nonneg->az,le_trans->bh,ofNat_le->b6
open Go.Lib renaming splitK->ah,count_one->bb,count->bp,index->bt
open Prod renaming ext->aj
open Nat renaming lt_of_lt_of_le->al,le_trans->aq,le_refl->au,or_lt_two_pow->ba,mul_le_mul_right->bc,mul_lt_mul_of_pos_right->bq,add_mul->bu,not_lt_zero->ch
open Option.some renaming inj->av
open Go.IntKind renaming wrap->aw,i64->ax
open BitVec renaming ofInt->bj
open Classical renaming not_not->bk
open Go.DataW renaming trod->b7
open Go.OpenSpec renaming ofChange->cr
namespace Go.Mrl
open Go.Vg
def dV(l:List (D aC))(s:aD):Int:=match l.findIdx? (fun e=>decide (e.1=s))with
 |some i=>(i:Int)
 |none =>-1
def rk{l:List (D aC)}{s:aD}(h:∀j,j<l.length->(nth aC l j).1≠s):dV l s= -1:=by
 unfold dV;rw[List.findIdx?_eq_none_iff.2 fun e he=>by
  obtain⟨j,hj,rfl⟩:=fZ (t:=aC) he;exact decide_eq_false (h j hj)]
def sa{l:List (D aC)}{s:aD}{i:Nat}(hi:i<l.length)(h:∀j,j<i->(nth aC l j).1≠s)(he:(nth aC l i).1=s):dV l s=(i:Int):=by
 unfold dV;have hn:∀j (hj:j<l.length),l[j]=nth aC l j:=fun j hj=>by unfold nth;rw[List.getD_eq_getElem?_getD,List.getElem?_eq_getElem hj];rfl
 rw[(List.findIdx?_eq_some_iff_getElem (xs:=l) (p:=fun e=>decide (e.1=s)) (i:=i)).2 ⟨hi,by rw[hn i hi];exact decide_eq_true he,fun j hj=>by
  rw[hn j (by omega)];simp only[decide_eq_true_eq];exact h j hj⟩]
def vq(n:Int):Int:=aw .u8 n
def jU(n:Int):aD:=bytesOf [vq n,vq (n.fdiv (2^8)),vq (n.fdiv (2^16)),vq (n.fdiv (2^24))]
def fI(a b:Int):aD:=[83]++jU a++jU b
def sP(n:Int):(jU n).length=4:=by simp[jU,bytesOf]
def EZ(a b:Int):(fI a b).length=9:=by simp[fI,sP]
def Qb(a b:Int):Int:=aw .i64 (bj ax.bits a ||| bj ax.bits b).toNat
def Qc(a:Int)(n:Nat):Int:=aw .i64 (a*2^n)
def iS(s:aD):Int:=Qb (Qb (Qb ((dQ s 0).toNat:Int) (Qc ((dQ s 1).toNat:Int) 8)) (Qc ((dQ s 2).toNat:Int) 16)) (Qc ((dQ s 3).toNat:Int) 24)
def lG:List (D aC)->Int
 |[]=>0
 |e :: r=>if bB e≠0 then bB e else lG r
def fJ(l:List (D aC)):aD:=l.flatMap fS
def dN(l:List (D aC)):aD×aL:=if lG l≠0 then([],aJ (lG l))else(fJ l,.nil)
def Lk:∀{l:List (D aC)} {i:Nat},(∀j,j<i->bB (nth aC l j)=0)->i<l.length->bB (nth aC l i)≠0->lG l=bB (nth aC l i)
 |[],i,_,h,_=>by simp at h
 |e :: r,0,_,_,h=>by unfold lG;rw[if_pos (show bB e≠0 from h)];rfl
 |e :: r,i+1,h,h1,h2=>by
  unfold lG;rw[if_neg (by have:=h 0 (by omega);exact not_not_intro this)];exact Lk (l:=r) (i:=i) (fun j hj=>h (j+1) (by omega)) (by simpa using h1) h2
def E0:∀{l:List (D aC)},(∀j,j<l.length->bB (nth aC l j)=0)->lG l=0
 |[],_=>rfl
 |e :: r,h=>by
  unfold lG;rw[if_neg (by have:=h 0 (by simp);exact not_not_intro this)];exact E0 (l:=r) fun j hj=>h (j+1) (by simp;omega)
def Il:∀{l:List (D aC)},lG l=0->∀e∈l,bB e=0
 |[],_,_,h=>by simp at h
 |e :: r,hb,x,hx=>by
  unfold lG at hb;split at hb
  ·rename_i h;exact absurd hb h
  ·rename_i h
   rcases b8.1 hx with rfl|hx
   ·exact bk.1 h
   ·exact Il hb x hx
def Qd{l:List (D aC)}{i:Nat}(h:i<l.length):fJ (l.take (i+1))=fJ (l.take i)++fS (nth aC l i):=by
 unfold fJ;rw[gY (t:=aC) h];simp
def Qe{e:D aC}(h:bB e=0):(fS e).length<=2753:=by
 have:=(lE h).AL e.2.2.1.length;unfold fS ri;rw[ab];simp;omega
def AY:∀{l:List (D aC)},(∀e∈l,bB e=0)->(fJ l).length<=2753*l.length
 |[],_=>by simp[fJ]
 |e :: r,h=>by
  have h1:=Qe (h e (by simp));have h2:=AY (l:=r) fun x hx=>h x (by simp[hx])
  have h3:fJ (e :: r)=fS e++fJ r:=rfl;rw[h3,ab,af];omega
def Qf{l:List (D aC)}{i:Nat}(hq:∀j,j<i->bB (nth aC l j)=0)(hi:i<l.length)(h:(dG (nth aC l i)).2.isNil=false):([],(dG (nth aC l i)).2)=dN l:=by
 have hf:bB (nth aC l i)≠0:=fun e=>by rw[Ig,e]at h;cases h
 unfold dN;rw[Lk hq hi hf,if_pos hf,Ig]
def SY{l:List (D aC)}{i:Nat}(hq:∀j,j<i->bB (nth aC l j)=0)(hi:¬i<l.length):(fJ (l.take i),aL.nil)=dN l:=by
 unfold dN;rw[E0 fun j hj=>hq j (by omega),if_neg (by decide),List.take_of_length_le (by omega)]
def Qg{l:List (D aC)}{i:Nat}(h:i<l.length)(ht:(dG (nth aC l i)).2.isNil=true):fJ (l.take (i+1))=fJ (l.take i)++(dG (nth aC l i)).1:=by
 rw[Qd h,(vm ht).2]
def Qh{l:List (D aC)}{i:Nat}(hl:l.length<=100)(hi:i<l.length)(hq:∀j,j<i->bB (nth aC l j)=0):(fJ (l.take i)).length<=275300:=by
 have h1:∀e∈l.take i,bB e=0:=fun e he=>by
  obtain⟨j,hj,rfl⟩:=fZ (t:=aC) he;rw[ak]at hj;rw[AH (t:=aC) (by omega)];exact hq j (by omega)
 have h2:=AY h1;rw[ak]at h2;omega
def mu(bs:List Int):Dk->Int->List Nat->Dk×Int
 |d,_,[]=>(d,0)
 |d,s,i :: r=>if(bL d s (bytesOf (eG (t:=.int .u8) bs 64 i))).2=0 then mu bs (bL d s (bytesOf (eG (t:=.int .u8) bs 64 i))).1 (s+1) r else bL d s (bytesOf (eG (t:=.int .u8) bs 64 i))
def Im(bs:List Int)(i:Nat):∀(pre:List Nat) (d:Dk) (s:Int),(mu bs d s pre).2=0->
  mu bs d s (pre++[i])=bL (mu bs d s pre).1 (s+pre.length) (bytesOf (eG (t:=.int .u8) bs 64 i))
 |[],d,s,_=>by
  simp only[b9,mu,cc];rw[show s+((0:Nat):Int)=s by omega];split
  ·rename_i h
   exact aj rfl h.symm
  ·rfl
 |j :: r,d,s,h=>by
  simp only[bm,mu]at h ⊢;split
  ·rename_i h1
   rw[if_pos h1]at h;rw[Im bs i r _ _ h,af];congr 1;omega
  ·rename_i h1
   rw[if_neg h1]at h;exact absurd h h1
structure dC (d:Dk) (m:Nat):Prop where
 ma : -1<=(d.1.1:Int)
 mo:d.2.2.2.1.length<=m
 len:d.2.1.length=d.2.2.1.length
def dC.mono{d:Dk}{m m':Nat}(h:dC d m)(hm:m<=m'):dC d m':=⟨h.ma,aq h.mo hm,h.len⟩
def sQ{d:Dk}{m:Nat}(h:dC d m):dC (stepOf d).1 m:=by
 unfold stepOf;split
 ·exact h
 ·split
  ·exact⟨ay _,h.mo,h.len⟩
  ·refine⟨?_,h.mo,h.len⟩
   have:=h.ma;show -1<=(if 0<d.1.1 then d.1.1-1 else d.1.1);split <;> omega
def mb{d:Dk}{m:Nat}(h:dC d m)(a:Int)(s:aD):dC (bL d a s).1 (m+1):=by
 unfold bL;split
 ·exact h.mono (by omega)
 ·split
  ·refine⟨(sQ h).ma,?_,?_⟩
   ·show(d.2.2.2.1++[(a,eI s,())]).length<=m+1
    rw[ab];have:=h.mo;simp;omega
   ·show d.2.1.length=(d.2.2.1.set a.toNat (eI s)).length
    rw[ad];exact h.len
  ·exact(sQ h).mono (by omega)
def rl{d:Dk}{m:Nat}(h:dC d m):dC (bO d).1 m:=by
 unfold bO;split
 ·exact⟨(sQ h).ma,Nat.zero_le _,rfl⟩
 ·exact sQ h
def Io(bs:List Int):∀(pre:List Nat) {d:Dk} {s:Int} {m:Nat},dC d m->dC (mu bs d s pre).1 (m+pre.length)
 |[],_,_,_,h=>h
 |i :: r,d,s,m,h=>by
  simp only[mu];split
  ·exact(Io bs r (mb h _ _)).mono (by simp;omega)
  ·exact(mb h _ _).mono (by simp)
def im(l:List (D aC))(r:Int)(d:Dk)(pre:List Nat):Dk×Int:=mu (bJ (dN l).1) d (2+(r+1).tmod 2*55) pre
def iq(l:List (D aC)):List Nat:=ar (fK (bJ (dN l).1).length 64)
def Cz(l:List (D aC))(r:Int)(d:Dk):Dk×Int:=bO (im l r d (iq l)).1
def vR(l:List (D aC))(r:Int)(d:Dk):Dk×Int:=bL (Cz l r d).1 ((r+1).tmod 2) (fI (r+1) (dN l).1.length)
def eJ(d:Dk)(r:Int)(l:List (D aC)):Dk×Int:=
 if lG l≠0 then(d,lG l)
 else if(im l r d (iq l)).2≠0 then im l r d (iq l)
 else if(Cz l r d).2≠0 then Cz l r d
 else if(vR l r d).2≠0 then vR l r d
 else bO (vR l r d).1
def Uo{r:Int}(h:0<=r):0<=(r+1).tmod 2/\(r+1).tmod 2<=1:=by rw[az (by omega)];omega
def E1{l:List (D aC)}(h:l.length<=100):(dN l).1.length<=275300:=by
 unfold dN;split
 ·simp
 ·rename_i hb
  have:=AY (Il (bk.1 hb));show(fJ l).length<=275300;omega
def qL{l:List (D aC)}(h:(dN l).2.isNil=true):(dN l).2=.nil/\lG l=0:=by
 unfold dN at h ⊢;split at h
 ·rename_i hb;exact absurd (aK.1 h) hb
 ·rename_i hb;rw[if_neg hb];exact⟨rfl,bk.1 hb⟩
def Ip{l:List (D aC)}{r:Int}{d:Dk}(h:dC d 1000000)(pre:List Nat):dC (im l r d pre).1 (1000000+pre.length):=Io _ pre h
def vr{l:List (D aC)}(h:l.length<=100):fK (bJ (dN l).1).length 64<=5000:=by
 have:=E1 h;unfold fK;rw[bJ,a7];omega
def Qi{l:List (D aC)}(d:Dk)(r:Int)(h:(dN l).2.isNil=false):eJ d r l=(d,lG l)/\lG l≠0/\(dN l).2=aJ (lG l):=by
 have hb:lG l≠0:=fun e=>by unfold dN at h;rw[if_neg (not_not_intro e)]at h;cases h
 exact⟨by unfold eJ;rw[if_pos hb],hb,by unfold dN;rw[if_pos hb]⟩
def sb{l o:List (D aC)}{d:Dk}{r:Int}{z:Dk×Int}(hk:eJ d r l=z)(hz:z.2≠0) :
  (((r,o,()),z.1):(Int×List (D aC)×Unit)×Dk)=(if(eJ d r l).2=0 then(r+1,l,())else(r,o,()),(eJ d r l).1)/\(aJ z.2,())=(aJ (eJ d r l).2,()):=by
 rw[hk,if_neg hz];exact⟨rfl,rfl⟩
def Qj{l o:List (D aC)}{d:Dk}{r:Int}{z:Dk×Int}(hk:eJ d r l=z)(hz:z.2=0) :
  (((r+1,l,()),z.1):(Int×List (D aC)×Unit)×Dk)=(if(eJ d r l).2=0 then(r+1,l,())else(r,o,()),(eJ d r l).1)/\(aJ z.2,())=(aJ (eJ d r l).2,()):=by
 rw[hk,if_pos hz];exact⟨rfl,rfl⟩
def Iq(bs:List Int)(i:Nat)(rest:List Nat):∀(pre:List Nat) (d:Dk) (s:Int),(mu bs d s pre).2=0->(bL (mu bs d s pre).1 (s+pre.length) (bytesOf (eG (t:=.int .u8) bs 64 i))).2≠0->
  mu bs d s (pre++i :: rest)=bL (mu bs d s pre).1 (s+pre.length) (bytesOf (eG (t:=.int .u8) bs 64 i))
 |[],d,s,_,h=>by
  simp only[b9,mu,cc]at h ⊢;rw[show s+((0:Nat):Int)=s by omega]at h ⊢;rw[if_neg h]
 |j :: r,d,s,h,h2=>by
  simp only[bm,mu]at h h2 ⊢;by_cases h1:(bL d s (bytesOf (eG (t:=.int .u8) bs 64 j))).2=0
  ·simp only[if_pos h1]at h h2 ⊢
   rw[af,show s+((r.length+1:Nat):Int)=s+1+(r.length:Int) by omega]at h2 ⊢;exact Iq bs i rest r _ _ h h2
  ·rw[if_neg h1]at h
   exact absurd h h1
def SZ{i m:Nat}(h:i<m):∃rest,ar m=ar i++i :: rest:=by
 obtain⟨b,rfl⟩:∃b,m=i+(b+1):=⟨m-i-1,by omega⟩
 rw[List.range_add,List.range_succ_eq_map];exact⟨_,by simp only[a8,Nat.add_zero];rfl⟩
def Nv{l:List (D aC)}{d:Dk}{r:Int}{pre:List Nat}{i:Nat}(h0:(dN l).2.isNil=true)(hp:(im l r d pre).2=0)(e:pre=ar i)(hi:pre.length<fK (bJ (dN l).1).length 64)
  (hw:(bL (im l r d pre).1 (2+(r+1).tmod 2*55+(pre.length:Int)) (bytesOf (eG (t:=.int .u8) (bJ (dN l).1) 64 i))).2≠0) :
  eJ d r l=bL (im l r d pre).1 (2+(r+1).tmod 2*55+(pre.length:Int)) (bytesOf (eG (t:=.int .u8) (bJ (dN l).1) 64 i)):=by
 have hil:i<fK (bJ (dN l).1).length 64:=by rw[e,bo]at hi;exact hi
 obtain⟨rest,hr⟩:=SZ hil;have hall:im l r d (iq l)=bL (im l r d pre).1 (2+(r+1).tmod 2*55+(pre.length:Int)) (bytesOf (eG (t:=.int .u8) (bJ (dN l).1) 64 i)):=by
  unfold im iq;rw[hr,<-e];exact Iq _ i rest pre d _ hp hw
 unfold eJ;rw[if_neg (not_not_intro (qL h0).2),hall,if_pos hw]
def Ir{l:List (D aC)}{d:Dk}{r:Int}{pre:List Nat}(i:Nat)(hp:(im l r d pre).2=0) :
  im l r d (pre++[i])=bL (im l r d pre).1 (2+(r+1).tmod 2*55+(pre.length:Int)) (bytesOf (eG (t:=.int .u8) (bJ (dN l).1) 64 i)):=Im _ i pre d _ hp
def U5{l:List (D aC)}{d:Dk}{r:Int}(h0:(dN l).2.isNil=true)(hp:(im l r d (iq l)).2=0)(hf:(Cz l r d).2≠0):eJ d r l=Cz l r d:=by
 unfold eJ;rw[if_neg (not_not_intro (qL h0).2),if_neg (not_not_intro hp),if_pos hf]
def U6{l:List (D aC)}{d:Dk}{r:Int}(h0:(dN l).2.isNil=true)(hp:(im l r d (iq l)).2=0)(hf:(Cz l r d).2=0)(hh:(vR l r d).2≠0):eJ d r l=vR l r d:=by
 unfold eJ;rw[if_neg (not_not_intro (qL h0).2),if_neg (not_not_intro hp),if_neg (not_not_intro hf),if_pos hh]
def E2{l:List (D aC)}{d:Dk}{r:Int}(h0:(dN l).2.isNil=true)(hp:(im l r d (iq l)).2=0)(hf:(Cz l r d).2=0)(hh:(vR l r d).2=0):eJ d r l=bO (vR l r d).1:=by
 unfold eJ;rw[if_neg (not_not_intro (qL h0).2),if_neg (not_not_intro hp),if_neg (not_not_intro hf),if_neg (not_not_intro hh)]
def AZ{l:List (D aC)}{r:Int}{d:Dk}(hl:l.length<=100)(h:dC d 1000000):dC (im l r d (iq l)).1 1005000:=
 (Ip h (iq l)).mono (by have:=vr hl;unfold iq;rw[bo];omega)
abbrev Sh:=(Int×List (D aC)×Unit)×Dk
def qo(x:Sh)(l:List (D aC)):Sh×Int:=((if(eJ x.2 x.1.1 l).2=0 then(x.1.1+1,l,())else x.1,(eJ x.2 x.1.1 l).1),(eJ x.2 x.1.1 l).2)
def qp(l:List (D aC))(e:D aC):Option (List (D aC)):=if 0<=dV l e.1 then some (l.set (dV l e.1).toNat e)else if l.length=3 then none else some (l++[e])
def ku(x:Sh)(e:D aC):Sh×Int:=
 if bB e≠0 then(x,bB e)else match qp x.1.2.1 e with
  |none=>(x,2)
  |some l=>qo x l
def eK(l:List (D aC))(s:aD):D aC×Bool:=if 0<=dV l s then(nth aC l (dV l s).toNat,true)else(bV aC,false)
def gI(x:Sh)(s:aD):Sh×Int:=
 if 0<=dV x.1.2.1 s then qo x (x.1.2.1.eraseIdx (dV x.1.2.1 s).toNat)else(x,5)
def p3(l:List (D aC))(s:aD):dV l s<l.length/\-1<=dV l s:=by
 unfold dV;split
 ·rename_i i h
  obtain⟨h1,_⟩:=List.findIdx?_eq_some_iff_getElem.1 h;omega
 ·omega
def E3{x:Sh}{e:D aC}(h:bB e≠0):ku x e=(x,bB e):=by unfold ku;rw[if_pos h]
def Ll{x:Sh}{e:D aC}(h:bB e=0)(hi:0<=dV x.1.2.1 e.1):ku x e=qo x (x.1.2.1.set (dV x.1.2.1 e.1).toNat e):=by
 unfold ku qp;rw[if_neg (not_not_intro h),if_pos hi]
def Is{x:Sh}{e:D aC}(h:bB e=0)(hi:¬0<=dV x.1.2.1 e.1)(hl:(x.1.2.1.length:Int)=3):ku x e=(x,2):=by
 unfold ku qp;rw[if_neg (not_not_intro h),if_neg hi,if_pos (by omega)]
def Dz{x:Sh}{e:D aC}(h:bB e=0)(hi:¬0<=dV x.1.2.1 e.1)(hl:¬(x.1.2.1.length:Int)=3):ku x e=qo x (x.1.2.1++[e]):=by
 unfold ku qp;rw[if_neg (not_not_intro h),if_neg hi,if_neg (by omega)]
def xE{α:Type}{o:List α}{b:Bool}(q:0<o.length->b=false)(h:b=true):o=[]:=by
 cases o with
 |nil=>rfl
 |cons a t=>rw[q (by simp)]at h;cases h
def yA{l:List (D aC)}{s:aD}(h:0<=dV l s):eK l s=(nth aC l (dV l s).toNat,true):=by unfold eK;rw[if_pos h]
def It{l:List (D aC)}{s:aD}(h:¬0<=dV l s):eK l s=(bV aC,false):=by unfold eK;rw[if_neg h]
def oW(s:aD):¬0<=dV [] s:=fun h=>absurd (show(0:Int)<=-1 from h) (by decide)
def nr(l:List (D aC))(e:D aC):List (D aC)×Int:=if bB e > 0 then(l,bB e)else match qp l e with
 |none=>(l,2)
 |some l'=>(l',0)
def vt(l:List (D aC))(s:aD):List (D aC):=l.filter fun e=>decide (e.1≠s)
def nM(l:List (D aC))(s:aD):List (D aC)×Int:=if(vt l s).length=l.length then(l,5)else(vt l s,0)
def CA{l:List (D aC)}{e:D aC}(h:bB e > 0):nr l e=(l,bB e):=by unfold nr;rw[if_pos h]
def Iu{l:List (D aC)}{e:D aC}{i:Nat}(h:¬bB e > 0)(hi:i<l.length)(hq:∀j,j<i->(nth aC l j).1≠e.1)(he:(nth aC l i).1=e.1):nr l e=(l.set i e,0):=by
 have hf:=sa hi hq he;unfold nr qp;rw[if_neg h,if_pos (by rw[hf];omega),hf];rfl
def E4{l:List (D aC)}{e:D aC}(h:¬bB e > 0)(hq:∀j,j<l.length->(nth aC l j).1≠e.1)(hl:(l.length:Int)=3):nr l e=(l,2):=by
 unfold nr qp;rw[if_neg h,if_neg (by rw[rk hq];decide),if_pos (by omega)]
def Iv{l:List (D aC)}{e:D aC}(h:¬bB e > 0)(hq:∀j,j<l.length->(nth aC l j).1≠e.1)(hl:¬(l.length:Int)=3):nr l e=(l++[e],0):=by
 unfold nr qp;rw[if_neg h,if_neg (by rw[rk hq];decide),if_neg (by omega)]
def dL(c:UInt8)(s:aD):List aD:=ah [c] 1 (bp s [c]) s
def E5(sep:aD)(save:Nat):∀(k:Nat) (s:aD),∀y∈ah sep save k s,y.length<=s.length
 |0,s,y,h=>by simp[ah]at h;subst h;exact au _
 |k+1,s,y,h=>by
  unfold ah at h;split at h
  ·simp at h;subst h;exact au _
  ·rcases b8.1 h with rfl|h
   ·rw[ak];exact Nat.min_le_right _ _
   ·exact aq (E5 sep save k _ y h) (by rw[cd];omega)
def E6(c:UInt8)(s y:aD)(h:y∈dL c s):y.length<=s.length:=E5 _ _ _ _ _ h
def gF(d:Dk):Dk×Int:=
 if(d.2.2.1.length:Int)<112 then(d,8)
 else if(bL d 1 []).2≠0 then bL d 1 []
 else if(bO (bL d 1 []).1).2≠0 then bO (bL d 1 []).1
 else if(bL (bO (bL d 1 []).1).1 0 (fI 2 0)).2≠0 then bL (bO (bL d 1 []).1).1 0 (fI 2 0)
 else bO (bL (bO (bL d 1 []).1).1 0 (fI 2 0)).1
def U7{d:Dk}(h:(d.2.2.1.length:Int)<112):gF d=(d,8):=by unfold gF;rw[if_pos h]
def WT{d:Dk}(h:¬(d.2.2.1.length:Int)<112)(h1:(bL d 1 []).2≠0):gF d=bL d 1 []:=by unfold gF;rw[if_neg h,if_pos h1]
def WU{d:Dk}(h:¬(d.2.2.1.length:Int)<112)(h1:(bL d 1 []).2=0)(h2:(bO (bL d 1 []).1).2≠0):gF d=bO (bL d 1 []).1:=by
 unfold gF;rw[if_neg h,if_neg (not_not_intro h1),if_pos h2]
def WV{d:Dk}(h:¬(d.2.2.1.length:Int)<112)(h1:(bL d 1 []).2=0)(h2:(bO (bL d 1 []).1).2=0)(h3:(bL (bO (bL d 1 []).1).1 0 (fI 2 0)).2≠0):gF d=bL (bO (bL d 1 []).1).1 0 (fI 2 0):=by
 unfold gF;rw[if_neg h,if_neg (not_not_intro h1),if_neg (not_not_intro h2),if_pos h3]
def WW{d:Dk}(h:¬(d.2.2.1.length:Int)<112)(h1:(bL d 1 []).2=0)(h2:(bO (bL d 1 []).1).2=0)(h3:(bL (bO (bL d 1 []).1).1 0 (fI 2 0)).2=0):gF d=bO (bL (bO (bL d 1 []).1).1 0 (fI 2 0)).1:=by
 unfold gF;rw[if_neg h,if_neg (not_not_intro h1),if_neg (not_not_intro h2),if_neg (not_not_intro h3)]
def ry{a b:Nat}(ha:a<2^40)(hb:b<2^40):Qb (a:Int) (b:Int)=((a ||| b:Nat):Int):=by
 have hlt:a ||| b<2^40:=ba ha hb
 have e:∀n:Nat,bj ax.bits (n:Int)=BitVec.ofNat ax.bits n:=fun n=>BitVec.ofInt_natCast _ n
 unfold Qb;rw[e,e,<-BitVec.ofNat_or,BitVec.toNat_ofNat,Nat.mod_eq_of_lt (al hlt (by decide))];exact lA (by omega) (by omega)
def rA{a k:Nat}(ha:a<2^8)(hk:k<=24):Qc (a:Int) k=((a*2^k:Nat):Int):=by
 unfold Qc;have h1:2^k<=2^24:=Nat.pow_le_pow_right (by decide) hk;have h2:a*2^k<=255*2^24:=Nat.mul_le_mul (by omega) h1;rw[show((a:Nat):Int)*(2:Int)^k=((a*2^k:Nat):Int) by simp];exact lA (by omega) (by omega)
def zX(s:aD):∃n:Nat,iS s=(n:Int)/\n<2^32:=by
 have hb:∀i,(dQ s i).toNat<2^8:=fun i=>(dQ s i).toNat_lt
 have h1:(dQ s 1).toNat*2^8<2^32:=al (bq (hb 1) (by decide)) (by decide);have h2:(dQ s 2).toNat*2^16<2^32:=al (bq (hb 2) (by decide)) (by decide);have h3:(dQ s 3).toNat*2^24<2^32:=al (bq (hb 3) (by decide)) (by decide);have h0:(dQ s 0).toNat<2^32:=al (hb 0) (by decide);have w:∀{n:Nat},n<2^32->n<2^40:=fun h=>al h (by decide)
 unfold iS;rw[rA (hb 1) (by decide),rA (hb 2) (by decide),rA (hb 3) (by decide),ry (w h0) (w h1)];have a1:=ba h0 h1;rw[ry (w a1) (w h2)];have a2:=ba a1 h2;rw[ry (w a2) (w h3)];exact⟨_,rfl,ba a2 h3⟩
def xF(d:Dk)(i:Int):aD:=nth .str d.2.2.1 (Int.toNat i)
def pH(d:Dk)(i:Nat):Int:=iS (ai 1 (ae 5 (xF d i)))
def qK(d:Dk)(i:Nat):Int:=iS (ai 5 (ae 9 (xF d i)))
def eH(d:Dk):Nat->Int×Int
 |0=>(0,0)
 |i+1=>if((dQ (xF d i) 0).toNat:Int)=83/\(eH d i).1<pH d i/\qK d i<=3520 then(pH d i,qK d i)else eH d i
def jq(d:Dk)(b:Int):Nat->aD
 |0=>[]
 |i+1=>jq d b i++xF d (b+(i:Int))
def kg(L:List aD):List (D aC):=(L.filter fun s=>decide (s≠[])).map fun s=>(gW s).1
def Iw(L:List aD):Prop:=∃j,j<L.length/\nth .str L j≠[]/\(gW (nth .str L j)).2.isNil=false
def kR(d:Dk):Int:=2+(eH d 2).1.tmod 2*55
def dK(d:Dk):List aD:=dL 10 (ae (eH d 2).2.toNat (jq d (kR d) 55))
open Classical in
def dO(d:Dk):(Int×List (D aC))×Int:=
 if d.1.2.1=true then((0,[]),9)else if(d.2.2.1.length:Int)<112 then((0,[]),4)else if(eH d 2).1=0 then((0,[]),4)
 else if Iw (dK d)then((0,[]),4)else(((eH d 2).1,kg (dK d)),0)
def CB(d:Dk):eH d 0=(0,0):=rfl
def Up(d:Dk)(i:Nat):eH d (i+1)=if((dQ (xF d i) 0).toNat:Int)=83/\(eH d i).1<pH d i/\qK d i<=3520 then(pH d i,qK d i)else eH d i:=rfl
def Uq(d:Dk)(b:Int):jq d b 0=[]:=rfl
def Nw(d:Dk)(b:Int)(i:Nat):jq d b (i+1)=jq d b i++xF d (b+(i:Int)):=rfl
def p4(d:Dk)(i:Nat):pH d i=iS (ai 1 (ae 5 (nth .str d.2.2.1 i))):=rfl
def rB(d:Dk)(i:Nat):qK d i=iS (ai 5 (ae 9 (nth .str d.2.2.1 i))):=rfl
def kA(d:Dk):kR d=2+(eH d 2).1.tmod 2*55:=rfl
def gK(d:Dk):dK d=dL 10 (ae (eH d 2).2.toNat (jq d (kR d) 55)):=rfl
def ug{d:Dk}{i:Nat}(h1:((dQ (nth .str d.2.2.1 i) 0).toNat:Int)=83)(h2:(eH d i).1<pH d i)(h3:qK d i<=3520):eH d (i+1)=(pH d i,qK d i):=by rw[Up];exact if_pos ⟨h1,h2,h3⟩
def yB{d:Dk}{i:Nat}(h:¬(((dQ (nth .str d.2.2.1 i) 0).toNat:Int)=83/\(eH d i).1<pH d i/\qK d i<=3520)):eH d (i+1)=eH d i:=by rw[Up];exact if_neg h
def gJ(d:Dk):∀i,(0<=(eH d i).1/\(eH d i).1<4294967296)/\0<=(eH d i).2/\(eH d i).2<=3520
 |0=>by rw[CB];decide
 |i+1=>by
  by_cases h:((dQ (nth .str d.2.2.1 i) 0).toNat:Int)=83/\(eH d i).1<pH d i/\qK d i<=3520
  ·rw[ug h.1 h.2.1 h.2.2]
   obtain⟨n,e,hn⟩:=zX (ai 1 (ae 5 (nth .str d.2.2.1 i)));obtain⟨m,e2,hm⟩:=zX (ai 5 (ae 9 (nth .str d.2.2.1 i)));have h3:=h.2.2;rw[p4,rB,e,e2];rw[rB,e2]at h3;refine⟨⟨by omega,?_⟩,by omega,h3⟩;have:(n:Int)<((2^32:Nat):Int):=Int.ofNat_lt.2 hn;simpa using this
  ·rw[yB h];exact gJ d i
def sR{a:Int}(h:0<=a):0<=a.tmod 2/\a.tmod 2<=1:=by rw[az h];omega
def kB{d:Dk}(hs:∀i,i<d.2.2.1.length->(nth .str d.2.2.1 i).length=64){b:Int}(hb:0<=b):∀n:Nat,b+(n:Int)<=d.2.2.1.length->(jq d b n).length=64*n
 |0,_=>by rw[Uq];rfl
 |n+1,h=>by
  rw[Nw,ab,kB hs hb n (by omega),show(xF d (b+(n:Int))).length=64 from hs _ (by omega)];omega
def Qk{d:Dk}(h:d.1.2.1=true):dO d=((0,[]),9):=by unfold dO;rw[if_pos h]
def S3{d:Dk}(h1:d.1.2.1=false)(h:(d.2.2.1.length:Int)<112):dO d=((0,[]),4):=by unfold dO;rw[if_neg (by rw[h1];decide),if_pos h]
def Ql{d:Dk}(h1:d.1.2.1=false)(h:¬(d.2.2.1.length:Int)<112)(h5:(eH d 2).1=0):dO d=((0,[]),4):=by unfold dO;rw[if_neg (by rw[h1];decide),if_neg h,if_pos h5]
def S4{d:Dk}(h1:d.1.2.1=false)(h:¬(d.2.2.1.length:Int)<112)(h5:¬(eH d 2).1=0)(hb:Iw (dK d)):dO d=((0,[]),4):=by unfold dO;rw[if_neg (by rw[h1];decide),if_neg h,if_neg h5,if_pos hb]
def Lm{d:Dk}(h1:d.1.2.1=false)(h:¬(d.2.2.1.length:Int)<112)(h5:¬(eH d 2).1=0)(hb:¬Iw (dK d)):dO d=(((eH d 2).1,kg (dK d)),0):=by unfold dO;rw[if_neg (by rw[h1];decide),if_neg h,if_neg h5,if_neg hb]
def Qm{L:List aD}{i:Nat}(h:i<L.length)(he:nth .str L i=[]):kg (L.take (i+1))=kg (L.take i):=by
 unfold kg;rw[gY (t:=.str) h,br,he];simp
def Qn{L:List aD}{i:Nat}(h:i<L.length)(he:nth .str L i≠[]):kg (L.take (i+1))=kg (L.take i)++[(gW (nth .str L i)).1]:=by
 unfold kg;rw[gY (t:=.str) h,br];simp[he]
def S5(L:List aD):(kg L).length<=L.length:=by unfold kg;rw[a7];exact List.length_filter_le _ _
def U8{L:List aD}{i:Nat}(hi:¬i<L.length)(h:∀j,j<i->nth .str L j=[]\/(gW (nth .str L j)).2.isNil=true):¬Iw L:=by
 rintro⟨j,h1,h2,h3⟩;rcases h j (by omega)with h|h
 ·exact h2 h
 ·rw[h]at h3;cases h3
def CC(sep:aD)(save:Nat):∀(k:Nat) (s:aD),(ah sep save k s).length<=k+1
 |0,s=>by simp[ah]
 |k+1,s=>by
  unfold ah;split
  ·simp
  ·rw[af];have:=CC sep save k (s.drop ((bt s sep).toNat+sep.length));omega
def Nx(c:UInt8)(s:aD):(dL c s).length<=s.length+1:=by
 unfold dL;refine aq (CC _ _ _ _) ?_;rw[bb];have:=List.count_le_length (a:=c) (l:=s);omega
def Qo:kg []=[]:=rfl
def iT(d:Dk):Dk×Int:=Classical.choose (⟨gF d,rfl⟩:∃y,y=gF d)
def mc(d:Dk):iT d=gF d:=Classical.choose_spec (⟨gF d,rfl⟩:∃y,y=gF d)
attribute [irreducible] eH jq kg kR dK pH qK
end Go.Mrl

namespace Go.Vg
open Go.RowKit
def DA(t:Ty):aU:=fun args st K=>
 match args with
 |[.one (.aV n),.one a,.one b]=>match look st.aF n,sh (.int .i64) a,sh (.int .i64) b with
  |some (.aV t' xs),some i,some j=>match Ty.beq t' t with
   |true =>.and (0<=(i:Int)/\(i:Int)<(j:Int)/\(j:Int)<=xs.length)
     (K (.s (.one (.aV st.next))) (fresh (bC (bC st n) n) (.aV t' (xs.take (i:Int).toNat++xs.drop (j:Int).toNat))))
   |false =>.ff
  |_,_,_ =>.ff
 |_ =>.ff
def Qp(P:Program)(f:FuncId)(sz:Nat):Prop:=∀(b i j n cap:Nat) (vs:Array Value) (T:TypeId) (w:World),w.heap[b]?=some (.cells vs T (0,0))->vs.size=cap*sz->i<j->j<=n->n<=cap->n<=aN->
 (∀(k:Nat) u,k<n*sz->vs[k]?=some u->u.oneCell'=true)->
 Calls P f #[.slice (some ⟨b,0,none⟩) n cap,.int .i64 (i:Int),.int .i64 (j:Int)] w fun e w'=>e=.returned (.slice (some ⟨b,0,none⟩) (i+(n-j)) cap)/\w'.os=w.os/\w'.output=w.output/\w'.heap.size=w.heap.size/\(∀k,k≠b->w'.heap[k]?=w.heap[k]?)/\
  ∃vs':Array Value,w'.heap[b]?=some (.cells vs' T (0,0))/\vs'.size=vs.size/\∀k,k<(i+(n-j))*sz->vs'[k]?=vs[if k<i*sz then k else k+(j-i)*sz]?
def S6{i j:Int}{n:Nat}(h0:0<=i)(hij:i<j)(hj:j<=n):∃i' j':Nat,i=(i':Int)/\j=(j':Int)/\i'<j'/\j'<=n:=
 ⟨i.toNat,j.toNat,by omega,by omega,by omega,by omega⟩
section
variable{P:Program}{X:Ext}{f:FuncId}
def Ny{B:Cx}{t:Ty}(hfn:∃fn,P.funcs[f]?=some fn/\fn.body.isNone=false/\(fn.name == "runtime.NumGoroutine")=false)(H:Qp P f t.size) :
  bY P B.eT X f false (DA t):=by
 refine⟨hfn,fun O st loc w args vs K hs g hO ha =>?_⟩;unfold DA at hs;split at hs
 case h_2=>exact hs.elim
 rename_i n ca cb;split at hs
 case h_2=>exact hs.elim
 rename_i t' xs i j hob hi hj;split at hs
 case h_2=>exact hs.elim
 rename_i ht;have ht':=Ty.eq_of_beq ht;subst ht';obtain⟨⟨h0,hij,hjx⟩,hs⟩:=hs
 match vs,ha with
 |[v0,v1,v2],.cons a0 (.cons a1 (.cons a2 .nil))=>
 have key:=S6 h0 hij hjx;clear h0 hij hjx;obtain⟨i,j,rfl,rfl,hij,hjx⟩:=key;have hs:(K (.s (.one (.aV st.next))) (fresh (bC (bC st n) n) (.aV t' (xs.take i++xs.drop j)))).holds:=hs;have e1:v1=.int .i64 (i:Int):=(cS.1 (pK hi a1)).1;have e2:v2=.int .i64 (j:Int):=(cS.1 (pK hj a2)).1;subst e1 e2;have hvl:=a0.2 _ _ hob;rcases(g.obj n _ hob).2 with⟨rfl,_⟩|⟨b,cs,T,cap,hl1,hU,hheap,hsz,hfit,hbig,he⟩
 ·simp at hjx;omega
 have hv0:=hvl.trans hl1;subst hv0;have hxs:List.length xs*t'.size<=cs.size:=by rw[hsz];exact bc _ hfit
 obtain⟨olds,ho,ho1,ho3,ho4⟩:=qc (cx:=B) he hxs;refine(H b i j xs.length cap cs T w hheap hsz hij hjx hfit hbig (fun k u hk hu=>ho4 u ?_)).mono ?_
 ·refine List.mem_of_getElem? (i:=k) ?_
  rw[ho,List.getElem?_take,if_pos hk,Array.getElem?_toList];exact hu
 rintro r w' ⟨rfl,k1,k2,k3,k4,cs',k5,k6,k7⟩;have hl':(xs.take i++xs.drop j).length=i+(xs.length-j):=by rw[ab,ak,cd];omega
 obtain⟨tr,gd⟩:=q8 (w':=w') (oc:=.aV t' (xs.take i++xs.drop j)) (l:=⟨.slice (some ⟨b,0,none⟩) (i+(xs.length-j)) cap,[b]⟩) g hO n n k1 k2 (Nat.le_of_eq k3.symm)
  (fun k oc' hk hl=>by
   have:k=n:=by rcases hk with h|h <;> exact h
   subst this;rw[hob]at hl;cases hl;rfl)
  (fun b' hlt hb=>k4 b' fun e'=>hb n _ (.inl rfl) hob (by rw[e',show(loc n).bs=_ from hU];simp))
  (fun b' hbm=>by
   simp at hbm;subst hbm;exact .inl ⟨n,_,.inl rfl,hob,by rw[show(loc n).bs=_ from hU];simp⟩)
 have gd:=gd (.inr ⟨b,cs',T,cap,by rw[hl'],rfl,k5,by rw[k6,hsz],by rw[hl'];omega,by rw[hl'];unfold aN at*;omega,fun k y hy=>by
  have hk:k<i+(xs.length-j):=by have:=bG hy;rw[hl']at this;exact this
  obtain⟨k',hk',hyx⟩:∃k',(k'=if k<i then k else k+(j-i))/\xs[k']?=some y:=by
   refine⟨_,rfl,?_⟩;rw[List.getElem?_append,ak]at hy;by_cases h:k<i
   ·rw[if_pos (by omega),List.getElem?_take,if_pos h]at hy
    rw[if_pos h];exact hy
   ·rw[if_neg (by omega),List.getElem?_drop]at hy
    rw[if_neg h];rw[show j+(k-min i xs.length)=k+(j-i) by omega]at hy;exact hy
  obtain⟨us,r1,r2⟩:=he k' y hyx;refine⟨us,r1.frame tr.cell,fun q u hq =>?_⟩;have hql:q<t'.size:=by have:=bG hq;rw[r1.length]at this;exact this
  have hm:(k+1)*t'.size<=(i+(xs.length-j))*t'.size:=bc _ hk;rw[bu,Nat.one_mul]at hm;rw[k7 _ (by omega)];have:=r2 q u hq;by_cases h:k<i
  ·rw[if_pos h]at hk'
   subst hk';have hm2:(k'+1)*t'.size<=i*t'.size:=bc _ h;rw[bu,Nat.one_mul]at hm2;rw[if_pos (by omega)];exact this
  ·rw[if_neg h]at hk'
   have hm2:i*t'.size<=k*t'.size:=bc _ (by omega);rw[if_neg (by omega)];rw[hk',bu]at this;rw[show k*t'.size+q+(j-i)*t'.size=k*t'.size+(j-i)*t'.size+q by omega];exact this⟩)
 exact⟨_,_,_,_,rfl,hs,rfl,(fun hq=>by cases hq),gd,tr,⟨by simp[aA,fresh,bC],fun t xs hy=>by simp[aA,bT]⟩⟩
end
end Go.Vg

namespace Go.Mrl
open Go.Vg
def nt{n:Int}{k:Nat}(h0:0<=n)(h:n<((10^(k+1):Nat):Int)):(Lib.itoa n).length<=k+1:=by
 unfold Lib.itoa;rw[if_neg (by omega)];exact oB k n.toNat (by omega)
def Qq{n:Int}(h:il (-2147483648) 2147483647 n):(Lib.itoa n).length<=11:=by
 have h1:=h.1;have h2:=h.2;by_cases hn:n<0
 ·rw[Pm hn,ab,bd]
  have:=nt (n:=-n) (k:=9) (by omega) (by omega);omega
 ·have:=nt (n:=n) (k:=9) (by omega) (by omega);omega
def DB{α:Type}{f:α->aD}{m:Nat}:∀{l:List α},(∀x∈l,(f x).length<=m)->(l.flatMap f).length<=m*l.length
 |[],_=>by simp
 |a :: r,h=>by
  have h1:=h a (by simp);have h2:=DB (l:=r) fun x hx=>h x (by simp[hx])
  rw[List.flatMap_cons,ab,af,Nat.mul_add,Nat.mul_one];omega
def Ix{p:D aH}(h1:Nm p.1)(h2:il 1 1000000 p.2.1)(h3:il 0 255 p.2.2.1):(nk p).length<=21:=by
 have a:=h1.2.1;have b:=nt (n:=p.2.1) (k:=6) (by have:=h2.1;omega) (by have:=h2.2;omega);have c:=nt (n:=p.2.2.1) (k:=2) (by have:=h3.1;omega) (by have:=h3.2;omega);simp[nk];omega
def Iy{p:D aR}(h1:il 0 5 p.1)(h2:il 0 39 p.2.1)(h3:il (-2147483648) 2147483647 p.2.2.1):(nn p).length<=17:=by
 have a:=nt (n:=p.1) (k:=0) (by have:=h1.1;omega) (by have:=h1.2;omega);have b:=nt (n:=p.2.1) (k:=1) (by have:=h2.1;omega) (by have:=h2.2;omega);have c:=Qq h3;simp[nn];omega
def Ka{e:D aC}(hf:bB e=0):(fS e).length<=752:=by
 have h:=lE hf;have a1:=h.nm.2.1;have a2:=nt (n:=(e.2.1.length:Int)) (k:=0) (by omega) (by have:=h.p6;omega);have a3:=nt (n:=(e.2.2.1.length:Int)) (k:=1) (by omega) (by have:=h.Co;omega);have hh:(vh e).length<=13:=by simp[vh];omega
 have b:=DB (f:=nk) (m:=21) (l:=e.2.1) fun x hx=>by
  obtain⟨j,hj,rfl⟩:=fZ (t:=aH) hx;obtain⟨k1,k2,k3⟩:=h.parts j hj;exact Ix k1 k2 k3
 have c:=DB (f:=nn) (m:=17) (l:=e.2.2.1) fun x hx=>by
  obtain⟨j,hj,rfl⟩:=fZ (t:=aR) hx;obtain⟨k1,k2,k3⟩:=h.HZ j hj;exact Iy k1 k2 k3
 have d1:=h.p6;have d2:=h.Co;unfold fS ri ju jI;rw[bf,bf,ab,ab,ab,bd];omega
def vu:∀{l:List (D aC)},(∀e∈l,bB e=0)->(fJ l).length<=752*l.length
 |[],_=>by simp[fJ]
 |e :: r,h=>by
  have h1:=Ka (h e (by simp));have h2:=vu (l:=r) fun x hx=>h x (by simp[hx])
  have h3:fJ (e :: r)=fS e++fJ r:=rfl;rw[h3,ab,af];omega
def E7{c:UInt8}:∀{l r:aD},c∉l->bt (l++c :: r) [c]=(l.length:Int)
 |[],r,_=>xh
 |b :: l,r,h=>by
  have hb:b≠c:=fun e=>h (by rw[e];simp)
  rw[bm,xg hb,E7 (l:=l) (r:=r) fun k=>h (List.mem_cons_of_mem _ k),af];rw[if_neg (by simp)];omega
def Kb{c:UInt8}{l r:aD}(h:c∉l):dL c (l++[c]++r)=(l++[c]) :: dL c r:=by
 have hc:bp (l++[c]++r) [c]=bp r [c]+1:=by
  rw[bb,bb,cf,List.count_append,List.count_eq_zero_of_not_mem h];simp
 have hi:bt (l++[c]++r) [c]=(l.length:Int):=by rw[cf];exact E7 h
 unfold dL;rw[hc,ah,hi,if_neg (by simp)];have e1:((l.length:Int)).toNat+1=(l++[c]).length:=by simp
 have e2:((l.length:Int)).toNat+ [c].length=(l++[c]).length:=by simp
 rw[e2,List.drop_left,e1,List.take_left]
def Nz(c:UInt8):dL c []=[[]]:=by
 unfold dL;rw[bb];rfl
def CE:∀{l:List (D aC)},(∀e∈l,bB e=0)->dL 10 (fJ l)=l.map fS++[[]]
 |[],_=>Nz 10
 |e :: r,h=>by
  have h3:fJ (e :: r)=ri e++[10]++fJ r:=rfl;rw[h3,Kb (Nl (lE (h e (by simp)))),CE (l:=r) fun x hx=>h x (by simp[hx])];rfl
def S7(e:D aC):fS e≠[]:=by unfold fS;simp
def CF{e:D aC}(h:bB e=0):gW (fS e)=(e,.nil):=by unfold gW;rw[Lh h rfl];rfl
def S8{l:List (D aC)}(h:∀e∈l,bB e=0):kg (l.map fS++[[]])=l:=by
 unfold kg;rw[br,cg.2 fun s hs=>by
  obtain⟨e,_,rfl⟩:=ao.1 hs;exact decide_eq_true (S7 e)]
 simp only[bw,List.filter_nil,ne_eq,not_true_eq_false,decide_false,Bool.false_eq_true,if_false,List.append_nil,List.map_map];have:l.map ((fun s=>(gW s).1) ∘ fS)=l.map id:=List.map_congr_left fun e he=>by simp only[Function.comp];rw[CF (h e he)];rfl
 rw[this,List.map_id]
def S9{l:List (D aC)}(h:∀e∈l,bB e=0):¬Iw (l.map fS++[[]]):=by
 rintro⟨j,h1,h2,h3⟩;have hm:nth .str (l.map fS++[[]]) j∈l.map fS++[[]]:=dJ (t:=.str) h1;rcases bx.1 hm with hm|hm
 ·obtain⟨e,he,k⟩:=ao.1 hm
  rw[<-k,CF (h e he)]at h3;cases h3
 ·exact h2 (bg.1 hm)
def Qr(n:Int):vq n=n % 256:=by
 unfold vq;simp[aw,IntKind.signed,IntKind.bits]
def sU{n:Nat}{m:Int}{k:Nat}(h:m=((n / 2^k:Nat):Int)):(UInt8.ofNat (Int.toNat (vq m))).toNat=n / 2^k % 256:=by
 rw[Qr,h,show((n / 2^k:Nat):Int) % 256=((n / 2^k % 256:Nat):Int) by omega,ag];simp[UInt8.toNat_ofNat']
def A0(n k:Nat):((n:Nat):Int).fdiv (2^k)=((n / 2^k:Nat):Int):=by
 rw[Int.fdiv_eq_ediv_of_nonneg _ (Int.le_of_lt (Int.pow_pos (by decide)))];simp
def Iz{a b k:Nat}(h:a<2^k):a ||| b*2^k=a+b*2^k:=by
 have:=Nat.two_pow_add_eq_or_of_lt h b;rw[Nat.mul_comm,Nat.or_comm];omega
def E8{n:Nat}(h:n<2^32):iS (jU (n:Int))=(n:Int):=by
 have b0:(dQ (jU (n:Int)) 0).toNat=n / 2^0 % 256:=sU (n:=n) (k:=0) (by simp);have b1:(dQ (jU (n:Int)) 1).toNat=n / 2^8 % 256:=sU (A0 n 8);have b2:(dQ (jU (n:Int)) 2).toNat=n / 2^16 % 256:=sU (A0 n 16);have b3:(dQ (jU (n:Int)) 3).toNat=n / 2^24 % 256:=sU (A0 n 24);have l:∀k,n / 2^k % 256<2^8:=fun k=>Nat.mod_lt _ (by decide)
 unfold iS;rw[b0,b1,b2,b3,rA (l 8) (by decide),rA (l 16) (by decide),rA (l 24) (by decide)];have l0:=l 0;have l1:=l 8;have l2:=l 16;have l3:=l 24;generalize hb0:n / 2^0 % 256=x0 at*;generalize hb1:n / 2^8 % 256=x1 at*;generalize hb2:n / 2^16 % 256=x2 at*;generalize hb3:n / 2^24 % 256=x3 at*;rw[ry (by omega) (by omega),Iz (k:=8) (by omega),ry (by omega) (by omega),Iz (k:=16) (by omega),ry (by omega) (by omega),Iz (k:=24) (by omega)];congr 1;omega
structure pE (d:Dk):Prop where
 down:d.1.2.1=false
 ma:(d.1.1:Int)= -1
 len:112<=d.2.2.1.length
 sec:∀i,i<d.2.2.1.length->(nth .str d.2.2.1 i).length=64
 Ta:d.2.1.length=d.2.2.1.length
def IA{s:aD}(h:s.length<=64):(eI s).length=64:=by unfold eI;simp;omega
def xG{d:Dk}(g:pE d):stepOf d=(d,0):=by
 unfold stepOf;rw[if_neg (by rw[g.down];decide),if_neg (by rw[g.ma];decide)];have hf:=g.ma;have hd:=g.down;obtain⟨⟨f,dn,u⟩,rest⟩:=d;simp only at hf hd;subst hd;rw[if_neg (by show ¬0<f;omega)]
def rm{d:Dk}(g:pE d){a:Int}{s:aD}(h0:0<=a)(h1:a<d.2.2.1.length)(hs:s.length<=64) :
  (bL d a s).2=0/\(bL d a s).1.2.2.1=d.2.2.1.set a.toNat (eI s)/\pE (bL d a s).1:=by
 have e:bL d a s=((d.1,d.2.1,d.2.2.1.set a.toNat (eI s),d.2.2.2.1++[(a,eI s,())],()),0):=by
  unfold bL;rw[if_neg (by omega),xG g,if_pos rfl]
 rw[e];refine⟨rfl,rfl,g.down,g.ma,by rw[ad];exact g.len,fun i hi =>?_,by rw[ad];exact g.Ta⟩;show(nth .str (d.2.2.1.set a.toNat (eI s)) i).length=64;have hi:i<(d.2.2.1.set a.toNat (eI s)).length:=hi;rw[ad]at hi;by_cases c:a.toNat=i
 ·subst c;rw[lX (t:=.str) hi];exact IA hs
 ·rw[lW (t:=.str) c];exact g.sec i hi
def rn{d:Dk}(g:pE d):(bO d).2=0/\(bO d).1.2.2.1=d.2.2.1/\pE (bO d).1:=by
 have e:bO d=((d.1,d.2.2.1,d.2.2.1,[],()),0):=by
  unfold bO;rw[xG g,if_pos rfl]
 rw[e];exact⟨rfl,rfl,g.down,g.ma,g.len,g.sec,rfl⟩
def IB(bs:List Int):∀(pre:List Nat) {d:Dk} {s:Int},pE d->0<=s->s+(pre.length:Int)<=d.2.2.1.length->
  (mu bs d s pre).2=0/\pE (mu bs d s pre).1/\(mu bs d s pre).1.2.2.1.length=d.2.2.1.length/\
  (∀j,j<pre.length->nth .str (mu bs d s pre).1.2.2.1 (s.toNat+j)=eI (bytesOf (eG (t:=.int .u8) bs 64 (pre.getD j 0))))/\
  (∀i,i<s.toNat\/s.toNat+pre.length<=i->nth .str (mu bs d s pre).1.2.2.1 i=nth .str d.2.2.1 i)
 |[],d,s,g,h0,h1=>⟨rfl,g,rfl,fun j hj=>absurd hj (ch _),fun i _=>rfl⟩
 |p :: r,d,s,g,h0,h1=>by
  have hc:(bytesOf (eG (t:=.int .u8) bs 64 p)).length<=64:=by rw[bytesOf,a7,rj];exact Nat.min_le_left _ _
  rw[af]at h1;obtain⟨w1,w2,w3⟩:=rm g (a:=s) h0 (by omega) hc;have hl:(bL d s (bytesOf (eG (t:=.int .u8) bs 64 p))).1.2.2.1.length=d.2.2.1.length:=by rw[w2,ad]
  obtain⟨k1,k2,k3,k4,k5⟩:=IB bs r (s:=s+1) w3 (by omega) (by rw[hl];omega);have e:mu bs d s (p :: r)=mu bs (bL d s (bytesOf (eG (t:=.int .u8) bs 64 p))).1 (s+1) r:=by
   rw[mu,if_pos w1]
  rw[e];have hs1:(s+1).toNat=s.toNat+1:=by omega
  refine⟨k1,k2,k3.trans hl,fun j hj =>?_,fun i hi =>?_⟩
  ·cases j with
   |zero=>
    rw[Nat.add_zero,k5 s.toNat (.inl (by omega)),w2,lX (t:=.str) (by omega)];rfl
   |succ j=>
    have:=k4 j (by simpa using hj);rw[hs1]at this;rw[show s.toNat+(j+1)=s.toNat+1+j by omega,this];rfl
  ·rw[af]at hi
   rw[k5 i (by omega),w2,lW (t:=.str) (by omega)]
def Ln{d:Dk}(hs:∀i,i<d.2.2.1.length->(nth .str d.2.2.1 i).length=64){b:Int}(hb:0<=b):∀(n:Nat),b+(n:Int)<=d.2.2.1.length->∀i,i<64*n->(jq d b n)[i]?=(nth .str d.2.2.1 (b.toNat+i / 64))[i % 64]?
 |0,_,i,hi=>by omega
 |n+1,h,i,hi=>by
  have hl:=kB hs hb n (by omega);rw[Nw];by_cases c:i<64*n
  ·rw[List.getElem?_append_left (by rw[hl];exact c)]
   exact Ln hs hb n (by omega) i c
  ·rw[List.getElem?_append_right (by rw[hl];omega),hl]
   have e1:i / 64=n:=by omega
   have e2:i-64*n=i % 64:=by omega
   rw[e1,e2,show xF d (b+(n:Int))=nth .str d.2.2.1 (b.toNat+n)from congrArg (nth .str d.2.2.1) (by omega)]
def Qs(t:aD)(j r:Nat)(hr:r<64):(bytesOf (eG (t:=.int .u8) (bJ t) 64 j))[r]?=t[j*64+r]?:=by
 have e:bytesOf (eG (t:=.int .u8) (bJ t) 64 j)=(t.drop (j*64)).take 64:=by
  have h:∀l:aD,bytesOf (bJ l)=l:=uX
  have h2:eG (t:=.int .u8) (bJ t) 64 j=bJ ((t.drop (j*64)).take 64):=by simp[eG,bJ,List.map_take,List.map_drop]
  rw[h2,h]
 rw[e,List.getElem?_take,if_pos hr,List.getElem?_drop]
def U9{d:Dk}(hs:∀i,i<d.2.2.1.length->(nth .str d.2.2.1 i).length=64){b:Int}(hb:0<=b)(hb2:b+55<=d.2.2.1.length){t:aD}(ht:t.length<=3520)
  (hw:∀j,j<fK t.length 64->nth .str d.2.2.1 (b.toNat+j)=eI (bytesOf (eG (t:=.int .u8) (bJ t) 64 j))):(jq d b 55).take t.length=t:=by
 apply cj;intro i;by_cases c:i<t.length
 ·rw[List.getElem?_take,if_pos c,Ln hs hb 55 hb2 i (by omega)]
  have hj:i / 64<fK t.length 64:=by unfold fK;omega
  rw[hw _ hj];unfold eI;have hg:=Qs t (i / 64) (i % 64) (Nat.mod_lt _ (by decide));have hi:i / 64*64+i % 64=i:=by omega
  rw[hi]at hg;have hlt:i % 64<(bytesOf (eG (t:=.int .u8) (bJ t) 64 (i / 64))).length:=by
   apply Classical.byContradiction;intro hn;rw[List.getElem?_eq_none (by omega)]at hg;rw[List.getElem?_eq_getElem c]at hg;cases hg
  rw[List.getElem?_append_left hlt,hg]
 ·rw[List.getElem?_take,if_neg c,List.getElem?_eq_none (by omega)]
def Qt(a b:Int)(s:aD):ai 1 (ae 5 (fI a b++s))=jU a/\ai 5 (ae 9 (fI a b++s))=jU b/\(dQ (fI a b++s) 0).toNat=83:=by
 refine⟨rfl,rfl,rfl⟩
def IC{d:Dk}{p:Nat}{a b:Nat}(h:nth .str d.2.2.1 p=eI (fI a b))(ha:a<2^32)(hb:b<2^32) :
  ((dQ (nth .str d.2.2.1 p) 0).toNat:Int)=83/\pH d p=(a:Int)/\qK d p=(b:Int):=by
 obtain⟨h1,h2,h3⟩:=Qt a b (bz (64-(fI a b).length) 0);rw[p4,rB,h];unfold eI;exact⟨by rw[h3];rfl,by rw[h1];exact E8 ha,by rw[h2];exact E8 hb⟩
structure jl (d:Dk) (r:Nat) (l:List (D aC)):Prop where
 fP:pE d
 quiet:d.2.2.2.1=[]
 tq:∀e∈l,bB e=0
 mo:l.length<=3
 r2:2<=r
 rM:r<=1000000000
 head:nth .str d.2.2.1 (r % 2)=eI (fI r (fJ l).length)
 other:((dQ (nth .str d.2.2.1 (1-r % 2)) 0).toNat:Int)≠83\/pH d (1-r % 2)<(r:Int)
 text:(jq d (2+((r % 2:Nat):Int)*55) 55).take (fJ l).length=fJ l
def xH:∀{l:List (D aC)},(∀e∈l,bB e=0)->lG l=0
 |[],_=>rfl
 |e :: r,h=>by unfold lG;rw[if_neg (not_not_intro (h e (by simp)))];exact xH fun x hx=>h x (by simp[hx])
def jl.small{d:Dk}{r:Nat}{l:List (D aC)}(h:jl d r l):(fJ l).length<=2256:=by
 have:=vu h.tq;have:=h.mo;omega
def jl.W6{d:Dk}{r:Nat}{l:List (D aC)}(h:jl d r l):eH d 2=((r:Int),((fJ l).length:Int)):=by
 have hr:=h.r2;have hM:=h.rM;have hs:=h.small;obtain⟨k1,k2,k3⟩:=IC h.head (by omega) (by omega);have ho:=h.other;rcases Nat.mod_two_eq_zero_or_one r with e|e
 ·rw[e]at k1 k2 k3 ho
  have h1:eH d 1=((r:Int),((fJ l).length:Int)):=by
   rw[ug k1 (by rw[CB,k2];show(0:Int)<r;omega) (by rw[k3];omega),k2,k3]
  rw[yB (i:=1) fun hh =>?_,h1];rcases ho with ho|ho
  ·exact ho hh.1
  ·have h2:=hh.2.1
   rw[h1]at h2;have h2:(r:Int)<pH d 1:=h2;have ho:pH d 1<(r:Int):=ho;omega
 ·rw[e]at k1 k2 k3 ho
  have h1:(eH d 1).1<(r:Int):=by
   by_cases c:((dQ (nth .str d.2.2.1 0) 0).toNat:Int)=83/\(eH d 0).1<pH d 0/\qK d 0<=3520
   ·rw[ug c.1 c.2.1 c.2.2]
    rcases ho with ho|ho
    ·exact absurd c.1 ho
    ·exact ho
   ·rw[yB c,CB];show(0:Int)<r;omega
  rw[ug (i:=1) k1 (by rw[k2];exact h1) (by rw[k3];omega),k2,k3]
def jl.lines{d:Dk}{r:Nat}{l:List (D aC)}(h:jl d r l):dK d=l.map fS++[[]]:=by
 rw[gK,kA,h.W6];have e:((r:Int)).tmod 2=((r % 2:Nat):Int):=by rw[az (by omega)];omega
 simp only[e,ag];rw[h.text,CE h.tq]
def jl.opens{d:Dk}{r:Nat}{l:List (D aC)}(h:jl d r l):dO d=(((r:Int),l),0):=by
 have h5:=h.W6;rw[Lm h.fP.down (by have:=h.fP.len;omega) (by rw[h5];have:=h.r2;show ¬(r:Int)=0;omega) (by rw[h.lines];exact S9 h.tq),h.lines,S8 h.tq,h5]
def NA{l:List (D aC)}(h:∀e∈l,bB e=0):(dN l).1=fJ l:=by unfold dN;rw[if_neg (not_not_intro (xH h))]
def zY{d:Dk}(g:pE d):(bO d).1.2.2.2.1=[]:=by
 have e:bO d=((d.1,d.2.2.1,d.2.2.1,[],()),0):=by unfold bO;rw[xG g,if_pos rfl]
 rw[e]
def Va{d:Dk}{r:Nat}{l l':List (D aC)}(h:jl d r l)(hf:∀e∈l',bB e=0)(hn:l'.length<=3)(hr:r+1<=1000000000) :
  (eJ d r l').2=0/\jl (eJ d r l').1 (r+1) l':=by
 have hb:=xH hf;have ht:=NA hf;have hs:(fJ l').length<=2256:=by have:=vu hf;omega
 have hlen:=h.fP.len;obtain⟨p,hp,hpd⟩:∃p:Nat,p<=1/\p=(r+1) % 2:=⟨_,by omega,rfl⟩
 have hm:((r:Int)+1).tmod 2=(p:Int):=by rw[az (by omega)];omega
 have hq:r % 2=1-p:=by omega
 have hN:(iq l').length=fK (fJ l').length 64:=by unfold iq;rw[bo,ht,zD]
 have hN2:fK (fJ l').length 64<=36:=by unfold fK;omega
 obtain⟨a1,a2,a3,a4,a5⟩:=IB (bJ (fJ l')) (iq l') (s:=2+(p:Int)*55) h.fP (by omega) (by rw[hN];omega);have ew:im l' r d (iq l')=mu (bJ (fJ l')) d (2+(p:Int)*55) (iq l'):=by unfold im;rw[ht,hm]
 rw[<-ew]at a1 a2 a3 a4 a5;obtain⟨b1,b2,b3⟩:=rn a2;have ef:Cz l' r d=bO (im l' r d (iq l')).1:=rfl;rw[<-ef]at b1 b2 b3;obtain⟨c1,c2,c3⟩:=rm b3 (a:=(p:Int)) (s:=fI ((r:Int)+1) (fJ l').length) (by omega) (by rw[b2,a3];omega) (by rw[EZ];decide);have eh:vR l' r d=bL (Cz l' r d).1 (p:Int) (fI ((r:Int)+1) (fJ l').length):=by unfold vR;rw[ht,hm]
 rw[<-eh]at c1 c2 c3;obtain⟨e1,e2,e3⟩:=rn c3;have ek:eJ d r l'=bO (vR l' r d).1:=by
  unfold eJ;rw[if_neg (not_not_intro hb),if_neg (not_not_intro a1),if_neg (not_not_intro b1),if_neg (not_not_intro c1)]
 rw[ek];have hsec:(bO (vR l' r d).1).1.2.2.1=(im l' r d (iq l')).1.2.2.1.set p (eI (fI ((r:Int)+1) (fJ l').length)):=by
  rw[e2,c2,b2,ag]
 have hpl:p<(im l' r d (iq l')).1.2.2.1.length:=by rw[a3];omega
 have htn:(2+(p:Int)*55).toNat=2+p*55:=by omega
 rw[htn]at a4 a5;refine⟨e1,{fP:=e3,quiet:=zY c3,tq:=hf,mo:=hn,r2:=by have:=h.r2;omega,rM:=hr,head:=?_,other:=?_,text:=?_}⟩
 ·rw[<-hpd,hsec,lX (t:=.str) hpl];rfl
 ·rw[<-hpd]
  have hk:nth .str (bO (vR l' r d).1).1.2.2.1 (1-p)=nth .str d.2.2.1 (1-p):=by
   rw[hsec,lW (t:=.str) (by omega),a5 _ (.inl (by omega))]
  have hh:=h.head;rw[hq]at hh;have hM:=h.rM;have hsm:=h.small;obtain⟨k1,k2,k3⟩:=IC hh (by omega) (by omega);right;rw[p4,hk,<-p4,k2];omega
 ·rw[<-hpd]
  refine U9 (b:=2+(p:Int)*55) (fun i hi=>e3.sec i hi) (by omega) (by rw[hsec,ad,a3];omega) (by omega) fun j hj =>?_
  rw[htn,hsec,lW (t:=.str) (by omega),a4 j (by rw[hN];exact hj)];unfold iq;rw[ht,zD,List.getD_eq_getElem?_getD,List.getElem?_range hj];rfl
def sd{n:Int}(h:112<=n):pE (qT n) where
 down:=rfl
 ma:=rfl
 len:=by show 112<=(bz n.toNat (eI [])).length;rw[List.length_replicate];omega
 sec:=fun i hi=>by
  have:i<(bz n.toNat (eI [])).length:=hi;rw[show nth .str (qT n).2.2.1 i=eI []from List.eq_of_mem_replicate (dJ (t:=.str) this)];exact IA (by decide)
 Ta:=rfl
def qM{d:Dk}(g:pE d):(iT d).2=0/\jl (iT d).1 2 []:=by
 rw[mc];have hlen:=g.len;obtain⟨a1,a2,a3⟩:=rm g (a:=1) (s:=[]) (by omega) (by omega) (by decide);obtain⟨b1,b2,b3⟩:=rn a3;obtain⟨c1,c2,c3⟩:=rm b3 (a:=0) (s:=fI 2 0) (by omega) (by rw[b2,a2,ad];omega) (by rw[EZ];decide);obtain⟨e1,e2,e3⟩:=rn c3;have ek:gF d=bO (bL (bO (bL d 1 []).1).1 0 (fI 2 0)).1:=by
  unfold gF;rw[if_neg (by omega),if_neg (not_not_intro a1),if_neg (not_not_intro b1),if_neg (not_not_intro c1)]
 rw[ek];have hsec:(bO (bL (bO (bL d 1 []).1).1 0 (fI 2 0)).1).1.2.2.1=(d.2.2.1.set 1 (eI [])).set 0 (eI (fI 2 0)):=by
  rw[e2,c2,b2,a2];rfl
 refine⟨e1,{fP:=e3,quiet:=zY c3,tq:=fun e he=>absurd he (by simp),mo:=by simp,r2:=au _,rM:=by decide,head:=?_,other:=.inl ?_,text:=rfl}⟩
 ·rw[hsec];exact lX (t:=.str) (by rw[ad];omega)
 ·rw[hsec]
  show((dQ (nth .str ((d.2.2.1.set 1 (eI [])).set 0 (eI (fI 2 0))) 1) 0).toNat:Int)≠83;rw[lW (t:=.str) (by omega),lX (t:=.str) (by omega)];decide
structure fG (x:Sh) (m:List (D aC)) (k:Nat):Prop where
 list:x.1.2.1=m
 names:(m.map (·.1)).Nodup
 DC:∃r:Nat,(x.1.1:Int)=(r:Int)/\r<=2+k/\jl x.2 r m
def vw{x:Sh}{m l:List (D aC)}{k:Nat}(h:fG x m k)(hk:k<=1000)(hf:∀e∈l,bB e=0)(hl:l.length<=3)(hn:(l.map (·.1)).Nodup):(qo x l).2=0/\fG (qo x l).1 l (k+1):=by
 obtain⟨r,h1,h2,h3⟩:=h.DC;obtain⟨k1,k2⟩:=Va h3 hf hl (by omega);unfold qo;rw[show(x.1.1:Int)=(r:Int)from h1,if_pos k1];exact⟨k1,rfl,hn,r+1,rfl,by omega,k2⟩
def fG.next{x:Sh}{m:List (D aC)}{k:Nat}(h:fG x m k):fG x m (k+1):=⟨h.list,h.names,let⟨r,h1,h2,h3⟩:=h.DC;⟨r,h1,by omega,h3⟩⟩
def Qu{m:List (D aC)}{e:D aC}{i:Nat}(hi:i<m.length)(he:(nth aC m i).1=e.1):(m.set i e).map (·.1)=m.map (·.1):=by
 apply cj;intro j;rw[List.getElem?_map,List.getElem?_map,List.getElem?_set];by_cases c:i=j
 ·subst c
  rw[if_pos rfl,if_pos hi];have:=mZ (t:=aC) hi;rw[this];simp[he]
 ·rw[if_neg c]
def Tb{p:Nat->Prop}(h:∃i,p i):∃i,(∀j,j<i->¬p j)/\p i:=by
 obtain⟨i,hi⟩:=h;induction i using Nat.strongRecOn with
 |ind i ih=>
  by_cases c:∃j,j<i/\p j
  ·obtain⟨j,h1,h2⟩:=c;exact ih j h1 h2
  ·exact⟨i,fun j hj hp=>c ⟨j,hj,hp⟩,hi⟩
def uh(m:List (D aC))(s:aD):(∃i,i<m.length/\(∀j,j<i->(nth aC m j).1≠s)/\(nth aC m i).1=s/\dV m s=(i:Int))\/((∀j,j<m.length->(nth aC m j).1≠s)/\dV m s= -1):=by
 by_cases h:∃i,i<m.length/\(nth aC m i).1=s
 ·left
  obtain⟨i,h0,h1,h2⟩:=Tb h;exact⟨i,h1,fun j hj e=>h0 j hj ⟨by omega,e⟩,h2,sa h1 (fun j hj e=>h0 j hj ⟨by omega,e⟩) h2⟩
 ·right
  have h':∀j,j<m.length->(nth aC m j).1≠s:=fun j hj e=>h ⟨j,hj,e⟩
  exact⟨h',rk h'⟩
def Td{m:List (D aC)}{e:D aC}{i:Nat}(h:∀x∈m,bB x=0)(he:bB e=0):∀x∈m.set i e,bB x=0:=fun x hx=>by
 rcases ck hx with h1|h1
 ·exact h x h1
 ·exact h1▸he
def ID{m:List (D aC)}{s:aD}(h:∀j,j<m.length->(nth aC m j).1≠s):s∉m.map (·.1):=fun hm=>by
 obtain⟨e,he,rfl⟩:=ao.1 hm;obtain⟨j,hj,rfl⟩:=fZ (t:=aC) he;exact h j hj rfl
def IE{x:Sh}{m:List (D aC)}{k:Nat}(h:fG x m k)(hk:k<=1000)(e:D aC):(ku x e).2=(nr m e).2/\fG (ku x e).1 (nr m e).1 (k+1):=by
 obtain⟨r,h1,h2,h3⟩:=h.DC;have hl:=h.list;by_cases hf:bB e=0
 ·rcases uh m e.1 with⟨i,i1,i2,i3,i4⟩|⟨j1,j2⟩
  ·rw[Ll hf (by rw[hl,i4];omega),hl,i4,Iu (by omega) i1 i2 i3,ag]
   exact vw h hk (Td h3.tq hf) (by rw[ad];exact h3.mo) (by rw[Qu i1 i3];exact h.names)
  ·by_cases c:(m.length:Int)=3
   ·rw[Is hf (by rw[hl,j2];omega) (by rw[hl];exact c),E4 (by omega) j1 c]
    exact⟨rfl,h.next⟩
   ·rw[Dz hf (by rw[hl,j2];omega) (by rw[hl];exact c),hl,Iv (by omega) j1 c]
    refine vw h hk (fun y hy =>?_) (by rw[ab,bd];have:=h3.mo;omega) ?_
    ·rcases bx.1 hy with hy|hy
     ·exact h3.tq y hy
     ·rw[bg.1 hy];exact hf
    ·rw[cm,List.nodup_append]
     refine⟨h.names,by simp,fun a ha b hb hab =>?_⟩;rw[List.map_singleton,bg]at hb;exact ID j1 (by rw[<-hb,<-hab];exact ha)
 ·have:=vN e
  rw[E3 hf,CA (by omega)];exact⟨rfl,h.next⟩
def CG{m:List (D aC)}{s:aD}(h:s∉m.map (·.1)):vt m s=m:=by
 unfold vt;exact cg.2 fun e he=>decide_eq_true fun hh=>h (ao.2 ⟨e,he,hh⟩)
def A4:∀{m:List (D aC)} {s:aD} {i:Nat},(m.map (·.1)).Nodup->i<m.length->(nth aC m i).1=s->vt m s=m.eraseIdx i
 |[],_,_,_,h,_=>absurd h (ch _)
 |e :: r,s,0,hn,_,he=>by
  have he:e.1=s:=he;rw[a8,b5]at hn;have h2:=CG (m:=r) (s:=s) (by rw[<-he];exact hn.1);unfold vt at*;rw[bw,if_neg (by simp[he]),h2];rfl
 |e :: r,s,i+1,hn,hi,he=>by
  have he:(nth aC r i).1=s:=he;rw[a8,b5]at hn;have hi:i<r.length:=by simpa using hi
  have h2:=A4 (m:=r) (s:=s) (i:=i) hn.2 hi he;have hne:e.1≠s:=fun hh=>hn.1 (by rw[hh,<-he];exact ao.2 ⟨_,dJ (t:=aC) hi,rfl⟩)
  unfold vt at*;rw[bw,if_pos (decide_eq_true hne),h2];rfl
def E9{x:Sh}{m:List (D aC)}{k:Nat}(h:fG x m k)(hk:k<=1000)(s:aD):(gI x s).2=(nM m s).2/\fG (gI x s).1 (nM m s).1 (k+1):=by
 obtain⟨r,h1,h2,h3⟩:=h.DC;have hl:=h.list;rcases uh m s with⟨i,i1,i2,i3,i4⟩|⟨j1,j2⟩
 ·have e:=A4 h.names i1 i3
  have el:(m.eraseIdx i).length=m.length-1:=by rw[cn,if_pos i1]
  have ed:nM m s=(m.eraseIdx i,0):=by unfold nM;rw[if_neg (by rw[e,el];omega),e]
  unfold gI;rw[if_pos (by rw[hl,i4];omega),hl,i4,ed,ag];exact vw h hk (fun y hy=>h3.tq y (List.mem_of_mem_eraseIdx hy)) (by rw[el];have:=h3.mo;omega) (h.names.sublist ((List.eraseIdx_sublist m i).map _))
 ·have e:=CG (ID j1)
  have ed:nM m s=(m,5):=by unfold nM;rw[if_pos (by rw[e]),]
  unfold gI;rw[if_neg (by rw[hl,j2];omega),ed];exact⟨rfl,h.next⟩
def jm:Sh:=((2,[],()),(iT (qT 112)).1)
def jD:fG jm [] 0:=⟨rfl,List.nodup_nil,2,rfl,au _,(qM (sd (ay _))).2⟩
def fG.at{x:Sh}{m:List (D aC)}{k:Nat}(h:fG x m k):∃r:Nat,x.1=((r:Int),m,())/\r<=2+k/\jl x.2 r m:=by
 obtain⟨r,h1,h2,h3⟩:=h.DC;exact⟨r,aj h1 (aj h.list rfl),h2,h3⟩
def fG.opens{x:Sh}{m:List (D aC)}{k:Nat}(h:fG x m k):dO x.2=((x.1.1,m),0):=by
 obtain⟨r,h1,h2,h3⟩:=h.at;rw[h3.opens,h1]
def fG.DD{x:Sh}{m:List (D aC)}{k:Nat}(h:fG x m k):(dO x.2).2=0:=by rw[h.opens]
def fG.again{x:Sh}{m:List (D aC)}{k:Nat}(h:fG x m k):(((dO x.2).1.1,(dO x.2).1.2,()):Int×List (D aC)×Unit)=x.1:=by
 rw[h.opens];exact aj rfl (aj h.list.symm rfl)
def jl.vy{d:Dk}{r:Nat}{l:List (D aC)}(h:jl d r l):dC d 1000000:=⟨by have:=h.fP.ma;omega,by rw[h.quiet];exact Nat.zero_le _,h.fP.Ta⟩
def fG.vy{x:Sh}{m:List (D aC)}{k:Nat}(h:fG x m k):dC x.2 1000000:=let⟨_,_,_,h3⟩:=h.at;h3.vy
def fG.sec{x:Sh}{m:List (D aC)}{k:Nat}(h:fG x m k):∀i,i<x.2.2.2.1.length->(nth .str x.2.2.2.1 i).length=64:=let⟨_,_,_,h3⟩:=h.at;h3.fP.sec
def fG.mo{x:Sh}{m:List (D aC)}{k:Nat}(h:fG x m k):x.1.2.1.length<=3:=by rw[h.list];let⟨_,_,_,h3⟩:=h.at;exact h3.mo
def fG.round{x:Sh}{m:List (D aC)}{k:Nat}(h:fG x m k):0<=(x.1.1:Int)/\(x.1.1:Int)<=2+k:=by
 obtain⟨r,h1,h2,_⟩:=h.DC;omega
def fG.Xd{x:Sh}{m:List (D aC)}{k:Nat}(h:fG x m k)(hk:k<=1000):x.1.2.1.length<=100/\0<=(x.1.1:Int)/\(x.1.1:Int)<=1000000000/\dC x.2 1000000:=
 ⟨aq h.mo (by decide),h.round.1,by have:=h.round.2;omega,h.vy⟩
def fG.DE{x:Sh}{m:List (D aC)}{k:Nat}(h:fG x m k)(hk:k<=1000):x.1.2.1.length<=99/\0<=(x.1.1:Int)/\(x.1.1:Int)<=1000000000/\dC x.2 1000000:=
 ⟨aq h.mo (by decide),h.round.1,by have:=h.round.2;omega,h.vy⟩
def fG.self{x:Sh}{m:List (D aC)}{k:Nat}(h:fG x m k):fG x x.1.2.1 k:=by rw[h.list];exact h
def Fa{b:List Int}{i n:Int}{t:D bD}(h:(km b i t n).2.isNil=true):(-2147483648:Int)<=(km b i t n).1/\(km b i t n).1<=(2147483647:Int):=by
 unfold km at h ⊢;split
 ·rename_i hk
  rw[if_pos hk]at h;split
  ·exact⟨by decide,by decide⟩
  ·rename_i h1
   exact⟨by show(-2147483648:Int)<=n-(n8 b i.toNat+t.1);omega,by show n-(n8 b i.toNat+t.1)<=(2147483647:Int);omega⟩
 ·split
  ·exact⟨by decide,by decide⟩
  ·rename_i h1
   exact⟨by show(-2147483648:Int)<=n;omega,by show n<=(2147483647:Int);omega⟩
def Te{l:List (D aB)}{b:List Int}{i:Int}{t:D bD}(h:(gR l b i t).2.isNil=true):(-2147483648:Int)<=(gR l b i t).1/\(gR l b i t).1<=(2147483647:Int):=by
 unfold gR at h ⊢;split
 ·rename_i hk;rw[if_pos hk]at h;exact Fa h
 ·rename_i hk
  rw[if_neg hk]at h;split
  ·rename_i h1;rw[if_pos h1]at h;exact Fa h
  ·exact⟨show(-2147483648:Int)<=0 by decide,show(0:Int)<=2147483647 by decide⟩
def IF{l:List (D aB)}{b:List Int}:∀{os:List (D aB)} {i:Nat},(∀k,k<os.length->(nth aB os k).2.2.2.1.length<=6)->(qV l b os i).length<=6*os.length
 |[],i,_=>by simp[qV]
 |o :: r,i,h=>by
  have h0:o.2.2.2.1.length<=6:=h 0 (by simp);have hr:=IF (l:=l) (b:=b) (os:=r) (i:=i+1) fun k hk=>h (k+1) (by simp;omega)
  have hl:(AS l b i o.2.2.2.1).length=o.2.2.2.1.length:=by simp[AS]
  show(AS l b i o.2.2.2.1++qV l b r (i+1)).length<=6*(r.length+1);rw[ab];omega
def Fb(s:List Int):∀k,jb s k % 16=0
 |0=>rfl
 |k+1=>by
  have h:=Fb s k;show(jb s k+cM (nth (.int .i64) s k)) % 16=0;unfold cM;omega
def ke.base{rd:Rd}{root:aD}{ns:List aD}{os:List (D aB)}{bs:List Int}{ps:List Pt}(h:ke rd root ns os bs ps){i:Nat}(hi:i<os.length) :
  (0:Int)<=nth (.int .i64) bs i/\nth (.int .i64) bs i<=(255:Int)/\nth (.int .i64) bs i % (16:Int)=0:=by
 obtain⟨h1,h2,h3⟩:=h.sum;have hs:∀j,j<(bZ os).length->1<=(nth (.int .i64) (bZ os) j:Int)/\(nth (.int .i64) (bZ os) j:Int)<=40:=by
  intro k hk;rw[pB]at hk;rw[Cg hk];have:=h1 k hk;exact⟨b6.2 this.1,b6.2 this.2⟩
 have hm:=MU hs (os.length-(i+1)) (i+1) (by rw[pB];omega);rw[show i+1+(os.length-(i+1))=os.length by omega]at hm;have e:jb (bZ os) (i+1)=jb (bZ os) i+cM (nth (.int .i64) (bZ os) i):=rfl;have hr:=(J0 (n:=nth (.int .i64) (bZ os) i)).1;have hp:=(hs i (by rw[pB];exact hi)).1;have hb:=h.bi i (by rw[h.bl];exact hi);refine⟨hb.1,?_,by rw[h3 i hi];exact Fb _ _⟩;rw[h3 i hi];have h2:jb (bZ os) os.length<=256:=h2;have hr:(nth (.int .i64) (bZ os) i:Int)<=cM (nth (.int .i64) (bZ os) i):=hr;have hp:(1:Int)<=nth (.int .i64) (bZ os) i:=hp;have key:∀b c d s:Int,b=c+d->s<=d->1<=s->b<=256->c<=255:=by intros;omega
 exact key _ _ _ _ e hr hp (bh hm h2)
def NB{x:cH}(g:fR x){root:aD}{ns:List aD}{os:List (D aB)}{bs:List Int}{ps:List Pt}(h:ke (aG x) root ns os bs ps):bB (root,bW (aG x) ns bs ns.length,ps,())=0:=by
 have hrd:∀j,j<ns.length->(aG x (nth .str ns j)).2.2=0:=fun j hj=>(kd g.ok (h.sc.xq j hj).1).1
 have hl:=h.sc.len;have hle:=h.sc.le;have hpos:=h.sc.pos;have hroot:aP root=0:=by
  have:=(g.read (hrd 0 hpos)).1;rw[h.sc.head]at this;exact this
 have hps:ps.length<=36:=by
  rw[h.pt];have:=IF (l:=os) (b:=bs) (os:=os) (i:=0) fun k hk=>(h.sc.obj g.ok hk).t6
  omega
 refine EO (Int.le_of_eq hroot) (iO ?_ ?_ ?_) (fun j hj =>?_) (fun j hj =>?_)
 ·show(1:Int)<=((bW (aG x) ns bs ns.length).length:Int);rw[dP];omega
 ·show((bW (aG x) ns bs ns.length).length:Int)<=6;rw[dP];omega
 ·show(ps.length:Int)<=36;omega
 ·have hj:j<ns.length:=by rw[<-dP (aG x) ns bs ns.length];exact hj
  show eE (nth aH (bW (aG x) ns bs ns.length) j)=0;rw[ic hj];obtain⟨r1,_,r3,r4⟩:=g.read (hrd j hj);obtain⟨b1,b2,b3⟩:=h.base (i:=j) (by omega);have hm:=g.st.pre.2.2;exact HX (Int.le_of_eq r1) r3 (bh r4 hm) b1 b2 b3
 ·have hj:j<ps.length:=hj
  show eO (bW (aG x) ns bs ns.length).length (nth aR ps j)=0;rw[dP];have hp:=h.W5 j hj;have hmem:nth aR ps j∈qV os bs os 0:=by rw[<-h.pt];exact dJ (t:=aR) hj
  obtain⟨k,t,hk,ht,e⟩:=AT hmem;rw[Nat.zero_add]at e;have hw:=Te (h.one k hk t ht);have h40:=(h.sc.obj g.ok hk).Ug;have h2:=hp.2.2.2;have h1:=hp.2.1;rw[nK]at h1;have ek:(nth aR ps j).1=(k:Int):=by rw[e]
  rw[ek,ag,vf hk]at h2;refine Cn hp.1 (by rw[ek];omega) hp.2.2.1 (Int.le_of_lt_add_one (show _<(39:Int)+1 from Int.lt_of_lt_of_le h2 (b6.2 h40))) ?_ ?_
  ·rw[e];exact hw.1
  ·rw[e];exact hw.2
def xI{x:cH}(g:fR x){root:aD}(h1:(aJ (cK (aG x) root).2).isNil=true) :
  (gS (aG x) root).2=0/\jM (aG x) (cK (aG x) root).1=gS (aG x) root/\eZ (aG x) (cK (aG x) root).1=true/\bB (cK (aG x) root).1=0:=by
 obtain⟨ns,os,bs,ps,e,hr,em⟩:=qG g.ok h1;have hf:=hr.fresh g.ok;have hu:=hr.use g.ok (rd':=aG x) (fun _ _=>rfl) hf;have hl:=UX e hr;rw[em];exact⟨by rw[hl],hu.trans hl.symm,hf,NB g hr⟩
def mv(f:cH)(e:D aC):Prop:=∃f0:cH,fR f0/\f0.1.1<=f.1.1/\cK (aG f0) e.1=(e,0)/\∀k,(aG f k).2.2=0->(aG f k).2.1<=f0.1.1->aG f k=aG f0 k
def NC(f:cH)(s t k:aD):aG (cL f s t).1 k=aG f k\/(aG (cL f s t).1 k).2.1=f.1.1+1:=by
 cases he:(aJ (cL f s t).2).isNil with
 |false=>left;rw[Pj he]
 |true=>
  by_cases e:k=s
  ·right;rw[e,Ph he]
  ·left;exact MF e
def mv.write{f:cH}{e:D aC}(h:mv f e)(g:fR f)(s t:aD):mv (cL f s t).1 e:=by
 obtain⟨f0,h1,h2,h3,h4⟩:=h;refine⟨f0,h1,bh h2 (g.st.write s t).2,h3,fun k a b =>?_⟩;rcases NC f s t k with c|c
 ·rw[c]at a b ⊢;exact h4 k a b
 ·have h2:(f0.1.1:Int)<=f.1.1:=h2
  have b:((aG (cL f s t).1 k).2.1:Int)<=f0.1.1:=b;rw[c]at b;omega
def Fc{s:aD}:∀{es:List FE},(es.map po).Nodup->cX cI (fU cI es s) s=false
 |[],_=>rfl
 |y :: es,h=>by
  rw[a8,b5]at h;by_cases e:y.1=s
  ·have hd:fU cI (y :: es) s=es:=if_pos e
   rw[hd];cases hh:cX cI es s with
   |false=>rfl
   |true=>
    obtain⟨z,hz,e2⟩:=l5.1 hh;exact absurd (ao.2 ⟨z,hz,(e2.trans e.symm:po z=po y)⟩) h.1
  ·have hd:fU cI (y :: es) s=y :: fU cI es s:=if_neg e
   rw[hd];have:=Fc (s:=s) h.2;simp only[cX]at this ⊢;simp[this,e]
def Qv{f:cH}(g:fR f)(s:aD):(aG (fE f s).1 s).2.2=5:=by
 obtain⟨r,hr⟩:=g.st.fP;cases hh:cX cI f.2.1.1 s with
 |false=>rw[mB hh,lJ hh]
 |true=>
  rw[lB hh,lJ];exact Fc hr.names
def mv.remove{f:cH}{e:D aC}(h:mv f e)(g:fR f)(s:aD):mv (fE f s).1 e:=by
 obtain⟨f0,h1,h2,h3,h4⟩:=h;refine⟨f0,h1,bh h2 (g.st.remove s).2,h3,fun k a b =>?_⟩;by_cases c:k=s
 ·subst c;rw[Qv g]at a;cases a
 ·rw[PN c]at a b ⊢;exact h4 k a b
def mv.self{f:cH}(g:fR f){s:aD}{e:D aC}(h:cK (aG f) s=(e,0))(hs:e.1=s):mv f e:=⟨f,g,ay _,by rw[hs];exact h,fun _ _ _=>rfl⟩
def Fe{rd:Rd}{s:aD}(h:(cK rd s).2=0):(cK rd s).1.1=s:=by
 unfold cK at h ⊢;split
 ·rename_i c;rw[if_pos c]at h;exact absurd h c
 ·rfl
def mv.Xe{f:cH}{e:D aC}(h:mv f e)(hf:eZ (aG f) e=true):cK (aG f) e.1=(e,0):=by
 obtain⟨f0,h1,h2,h3,h4⟩:=h;obtain⟨ns,os,bs,ps,e1,hr,em⟩:=qG h1.ok (root:=e.1) (by rw[h3];rfl);have he:e=(e.1,bW (aG f0) ns bs ns.length,ps,()):=by
  have:=em;rw[h3]at this;exact congrArg Prod.fst this
 rw[M9 e1 hr (rd':=aG f) fun k hk =>?_,h3];obtain⟨j,hj,rfl⟩:=fZ (t:=.str) hk;obtain⟨_,q⟩:=EN hf;have hst:e.2.1=bW (aG f0) ns bs ns.length:=by rw[he]
 have qj:=q j (by rw[hst,dP];exact hj);rw[hst,ic hj]at qj;simp only at qj;have hrd:(aG f0 (nth .str ns j)).2.2=0:=by
  have:=ES h1.ok (s:=e.1) (by rw[e1]) (i:=j) (by rw[e1];exact hj);rw[e1]at this;exact this
 refine h4 _ qj.1 ?_;rw[qj.2];exact(h1.read hrd).2.2.2
def jv(f:cH)(l:List (D aC))(s:aD):List (D iH)×Bool×Int:=
 if(eK l s).2=true/\eZ (aG f) (eK l s).1=true then((jM (aG f) (eK l s).1).1,decide ((jM (aG f) (eK l s).1).2=0),(jM (aG f) (eK l s).1).2)
 else((gS (aG f) s).1,false,(gS (aG f) s).2)
def Ff{l:List (D aC)}{s:aD}(h:(eK l s).2=true):(eK l s).1∈l/\(eK l s).1.1=s:=by
 rcases uh l s with⟨i,i1,i2,i3,i4⟩|⟨j1,j2⟩
 ·rw[yA (by omega),i4,ag];exact⟨dJ (t:=aC) i1,i3⟩
 ·rw[It (by omega)]at h;cases h
structure gT (f:cH) (l:List (D aC)):Prop where
 fP:fR f
 made:∀e∈l,mv f e
def gT.new:gT qm []:=⟨.new,fun e he=>absurd he (by simp)⟩
def gT.write{f:cH}{l:List (D aC)}(h:gT f l)(s t:aD):gT (cL f s t).1 l:=⟨h.fP.write s t,fun e he=>(h.made e he).write h.fP s t⟩
def gT.remove{f:cH}{l:List (D aC)}(h:gT f l)(s:aD):gT (fE f s).1 l:=⟨h.fP.remove s,fun e he=>(h.made e he).remove h.fP s⟩
def Tf{l:List (D aC)}{e x:D aC}(h:x∈(nr l e).1):x=e\/x∈l:=by
 unfold nr at h;split at h
 ·exact .inr h
 ·split at h
  ·exact .inr h
  ·rename_i l' hl
   unfold qp at hl;split at hl
   ·cases hl
    rcases ck h with h|h
    ·exact .inr h
    ·exact .inl h
   ·split at hl
    ·cases hl
    ·cases hl
     rcases bx.1 h with h|h
     ·exact .inr h
     ·exact .inl (bg.1 h)
def Qw{l:List (D aC)}{s:aD}{x:D aC}(h:x∈(nM l s).1):x∈l:=by
 unfold nM at h;split at h
 ·exact h
 ·exact(List.mem_filter.1 h).1
def mw(f:cH)(l:List (D aC))(s:aD):List (D aC)×Int:=if(cK (aG f) s).2=0 then nr l (cK (aG f) s).1 else(l,(cK (aG f) s).2)
def gT.put{f:cH}{l:List (D aC)}(h:gT f l){s:aD}(hm:(cK (aG f) s).2=0):gT f (nr l (cK (aG f) s).1).1:=by
 refine⟨h.fP,fun x hx =>?_⟩;rcases Tf hx with rfl|hx
 ·exact mv.self h.fP (aj rfl hm) (Fe hm)
 ·exact h.made x hx
def gT.build{f:cH}{l:List (D aC)}(h:gT f l)(s:aD):gT f (mw f l s).1:=by
 unfold mw;split
 ·rename_i hm;exact h.put hm
 ·exact h
def gT.drop{f:cH}{l:List (D aC)}(h:gT f l)(s:aD):gT f (nM l s).1:=⟨h.fP,fun x hx=>h.made x (Qw hx)⟩
def gT.load{f:cH}{l:List (D aC)}(h:gT f l)(s:aD):(jv f l s).1=(gS (aG f) s).1/\(jv f l s).2.2=(gS (aG f) s).2/\
  (jv f l s).2.1=((eK l s).2&&eZ (aG f) (eK l s).1)/\((jv f l s).2.1=true->(gS (aG f) s).2=0):=by
 unfold jv;by_cases c:(eK l s).2=true/\eZ (aG f) (eK l s).1=true
 ·rw[if_pos c]
  obtain⟨m1,m2⟩:=Ff c.1;have ha:=(h.made _ m1).Xe c.2;rw[m2]at ha;obtain⟨u1,u2,u3,u4⟩:=xI h.fP (root:=s) (by rw[ha];rfl);rw[ha]at u2;rw[u2,u1,c.1,c.2];exact⟨rfl,rfl,rfl,fun _=>rfl⟩
 ·rw[if_neg c]
  refine⟨rfl,rfl,?_,fun e=>by cases e⟩;show false=_;exact(Bool.eq_false_iff.2 fun e=>c (by rw[Bool.and_eq_true]at e;exact e)).symm
def xJ(x:Sh):Prop:=x.1.2.1.length<=99/\0<=(x.1.1:Int)/\(x.1.1:Int)<=1000000000/\dC x.2 1000000
def tt(l:List (D aC)):Prop:=∀i,i<l.length->(nth aC l i).2.1.length<=1000/\(nth aC l i).2.2.1.length<=1000
def fL(f:cH)(x:Sh)(s:aD):Sh×Int:=if(cK (aG f) s).2=0 then ku x (cK (aG f) s).1 else(x,(cK (aG f) s).2)
def Qx{f:cH}{x:Sh}{s:aD}(h:¬(cK (aG f) s).2=0):fL f x s=(x,(cK (aG f) s).2):=by unfold fL;rw[if_neg h]
def ND{f:cH}{x:Sh}{s:aD}(h:(cK (aG f) s).2=0):fL f x s=ku x (cK (aG f) s).1:=by unfold fL;rw[if_pos h]
def NF{f:cH}(g:fR f){s:aD}(h:(cK (aG f) s).2=0):(cK (aG f) s).1.2.1.length<=1000000/\(cK (aG f) s).1.2.2.1.length<=1000000:=by
 have:=lE (xI g (root:=s) (aK.2 h)).2.2.2;have h1:=this.p6;have h2:=this.Co;exact⟨by omega,by omega⟩
def Qy{l:List (D aC)}(h:tt l){s:aD}(hs:(eK l s).2=true):(eK l s).1.2.1.length<=1000:=by
 obtain⟨j,hj,e⟩:=fZ (t:=aC) (Ff hs).1;rw[<-e];exact(h j hj).1
def tt.wide{l:List (D aC)}(h:tt l):∀i,i<l.length->(nth aC l i).2.1.length<=1000000/\(nth aC l i).2.2.1.length<=1000000:=fun i hi=>by
 have:=h i hi;omega
def Fg{f:cH}{l:List (D aC)}{s:aD}(h1:(eK l s).2=true)(h2:eZ (aG f) (eK l s).1=true) :
  jv f l s=((jM (aG f) (eK l s).1).1,decide ((jM (aG f) (eK l s).1).2=0),(jM (aG f) (eK l s).1).2):=by unfold jv;rw[if_pos ⟨h1,h2⟩]
def xK{f:cH}{l:List (D aC)}{s:aD}(h:¬((eK l s).2=true/\eZ (aG f) (eK l s).1=true)):jv f l s=((gS (aG f) s).1,false,(gS (aG f) s).2):=by unfold jv;rw[if_neg h]
def Vb(n:Int):(aJ n).isNil=decide (n=0):=by
 cases h:(aJ n).isNil with
 |true=>rw[decide_eq_true (aK.1 h)]
 |false=>rw[decide_eq_false fun e=>by rw[aK.2 e]at h;cases h]
def fG.Tg{x:Sh}{m:List (D aC)}{k:Nat}(h:fG x m k):tt x.1.2.1:=fun i hi=>by
 obtain⟨r,h1,h2,h3⟩:=h.at;rw[h.list]at hi ⊢;have h:=lE (h3.tq _ (dJ (t:=aC) hi));have h1:=h.p6;have h2:=h.Co;exact⟨by omega,by omega⟩
def NG{f:cH}{x:Sh}{k:Nat}(g:fR f)(h:fG x x.1.2.1 k)(hk:k<=1000)(s:aD):(fL f x s).2=(mw f x.1.2.1 s).2/\fG (fL f x s).1 (mw f x.1.2.1 s).1 (k+1):=by
 unfold fL mw;by_cases c:(cK (aG f) s).2=0
 ·rw[if_pos c,if_pos c];exact IE h hk _
 ·rw[if_neg c,if_neg c];exact⟨rfl,h.next⟩
def Vc{l:List (D aC)}{e:D aC}(h:(nr l e).2=0):eK (nr l e).1 e.1=(e,true):=by
 by_cases hf:bB e > 0
 ·rw[CA hf]at h;have h:bB e=0:=h;omega
 ·rcases uh l e.1 with⟨i,i1,i2,i3,i4⟩|⟨j1,j2⟩
  ·rw[Iu hf i1 i2 i3]
   have hn:nth aC (l.set i e) i=e:=lX (t:=aC) i1;have hl:i<(l.set i e).length:=by rw[ad];exact i1
   have hF:dV (l.set i e) e.1=(i:Int):=sa hl (fun j hj=>by rw[lW (t:=aC) (by omega)];exact i2 j hj) (by rw[hn]);show eK (l.set i e) e.1=_;rw[yA (by omega),hF,ag,hn]
  ·by_cases c:(l.length:Int)=3
   ·rw[E4 hf j1 c]at h;cases h
   ·rw[Iv hf j1 c]
    have hl:l.length<(l++[e]).length:=by rw[ab,bd];omega
    have hn:nth aC (l++[e]) l.length=e:=by unfold nth;simp[List.getD_eq_getElem?_getD]
    have hF:dV (l++[e]) e.1=(l.length:Int):=sa hl (fun j hj=>by
     have:nth aC (l++[e]) j=nth aC l j:=by unfold nth;simp[List.getD_eq_getElem?_getD,List.getElem?_append_left hj]
     rw[this];exact j1 j hj) (by rw[hn])
    show eK (l++[e]) e.1=_;rw[yA (by omega),hF,ag,hn]
def Fh{f:cH}{l:List (D aC)}{s:aD}(h:(mw f l s).2=0):(cK (aG f) s).2=0/\eK (mw f l s).1 s=((cK (aG f) s).1,true):=by
 unfold mw at h ⊢;by_cases c:(cK (aG f) s).2=0
 ·rw[if_pos c]at h ⊢
  refine⟨c,?_⟩;have:=Vc h;rw[Fe c]at this;exact this
 ·rw[if_neg c]at h;exact absurd h c
def NH{f:cH}{l:List (D aC)}{s:aD}(g:fR f)(h:(mw f l s).2=0):jv f (mw f l s).1 s=((gS (aG f) s).1,true,0):=by
 obtain⟨c,e⟩:=Fh h;obtain⟨u1,u2,u3,u4⟩:=xI g (root:=s) (aK.2 c);rw[Fg (by rw[e]) (by rw[e];exact u3),e];show((jM (aG f) (cK (aG f) s).1).1,decide ((jM (aG f) (cK (aG f) s).1).2=0),(jM (aG f) (cK (aG f) s).1).2)=_;rw[u2,u1];rfl
def vz:Sh:=(((dO jm.2).1.1,(dO jm.2).1.2,()),jm.2)
def zZ:vz=jm:=aj jD.again rfl
def vS:fG vz [] 0:=by rw[zZ];exact jD
def CH{d:Dk}(h:(bO d).2=0):(bO d).1.2.1=(bO d).1.2.2.1:=by
 by_cases c:(stepOf d).2=0
 ·rw[Er c]
 ·rw[y9 c]at h;exact absurd h c
def IG:jm.2.2.1=jm.2.2.2.1:=by
 have e:iT (qT 112)=gF (qT 112):=mc _;have h0:(gF (qT 112)).2=0:=by rw[<-e];exact(qM (sd (ay _))).1
 show(iT (qT 112)).1.2.1=(iT (qT 112)).1.2.2.1;rw[e];unfold gF at h0 ⊢;split at h0
 ·cases h0
 ·split at h0
  ·rename_i c;exact absurd h0 c
  ·split at h0
   ·rename_i c;exact absurd h0 c
   ·split at h0
    ·rename_i c;exact absurd h0 c
    ·rename_i c1 c2 c3 c4
     rw[if_neg c1,if_neg c2,if_neg c3,if_neg c4];exact CH h0
def Sync(x:Sh):Prop:=x.2.2.1=x.2.2.2.1
def NI{d:Dk}{r:Int}{l:List (D aC)}(h:(eJ d r l).2=0):(eJ d r l).1.2.1=(eJ d r l).1.2.2.1:=by
 unfold eJ at h ⊢;split at h
 ·rename_i c;exact absurd h c
 ·split at h
  ·rename_i c;exact absurd h c
  ·split at h
   ·rename_i c;exact absurd h c
   ·split at h
    ·rename_i c;exact absurd h c
    ·rename_i c1 c2 c3 c4
     rw[if_neg c1,if_neg c2,if_neg c3,if_neg c4];exact CH h
def CI{x:Sh}{l:List (D aC)}(h:(qo x l).2=0):Sync (qo x l).1:=NI (d:=x.2) h
def Th{x:Sh}{m:List (D aC)}{k:Nat}(h:fG x m k)(hk:k<=1000)(hs:Sync x)(e:D aC):Sync (ku x e).1:=by
 have hb:=(IE h hk e).1;have hl:=h.list;unfold ku at hb ⊢;unfold nr at hb;rw[hl]at hb ⊢;have:=vN e;by_cases hf:bB e=0
 ·rw[if_neg (not_not_intro hf)]at hb ⊢
  rw[if_neg (by omega)]at hb;cases hp:qp m e with
  |none=>exact hs
  |some l=>rw[hp]at hb;exact CI hb
 ·rw[if_pos hf];exact hs
def Qz{x:Sh}{m:List (D aC)}{k:Nat}(h:fG x m k)(hk:k<=1000)(hs:Sync x)(s:aD):Sync (gI x s).1:=by
 have hb:=(E9 h hk s).1;have hl:=h.list;rcases uh m s with⟨i,i1,i2,i3,i4⟩|⟨j1,j2⟩
 ·have e:=A4 h.names i1 i3
  have el:(m.eraseIdx i).length=m.length-1:=by rw[cn,if_pos i1]
  have ed:nM m s=(m.eraseIdx i,0):=by unfold nM;rw[if_neg (by rw[e,el];omega),e]
  rw[ed]at hb;unfold gI at hb ⊢;rw[if_pos (by rw[hl,i4];omega)]at hb ⊢;exact CI hb
 ·unfold gI
  rw[if_neg (by rw[hl,j2];omega)];exact hs
def gT.done{l:List (D aC)}:∀(a:List (D cQ)) {f:cH},gT f l->gT (fY f a) l
 |[],_,h=>h
 |a :: r,f,h=>by
  have:gT (mL f a) l:=by
   unfold mL;split
   ·exact h.write _ _
   ·split
    ·exact h.remove _
    ·exact h
  exact gT.done r this
structure kS (f:cH) (x:Sh) (k:Nat):Prop where
 kept:gT f x.1.2.1
 me:fG x x.1.2.1 k
 sync:Sync x
def kS.next{f:cH}{x:Sh}{k:Nat}(h:kS f x k):kS f x (k+1):=⟨h.kept,h.me.next,h.sync⟩
def kS.done{f:cH}{x:Sh}{k:Nat}(h:kS f x k)(a:List (D cQ)):kS (fY f a) x (k+1):=⟨h.kept.done a,h.me.next,h.sync⟩
def kS.build{f:cH}{x:Sh}{k:Nat}(h:kS f x k)(hk:k<=1000)(s:aD):kS f (fL f x s).1 (k+1)/\(fL f x s).2=(mw f x.1.2.1 s).2/\(fL f x s).1.1.2.1=(mw f x.1.2.1 s).1:=by
 have hb:=NG h.kept.fP h.me hk s;refine⟨⟨?_,hb.2.self,?_⟩,hb.1,hb.2.list⟩
 ·rw[hb.2.list];exact h.kept.build s
 ·unfold fL
  split
  ·exact Th h.me hk h.sync _
  ·exact h.sync
def kS.drop{f:cH}{x:Sh}{k:Nat}(h:kS f x k)(hk:k<=1000)(s:aD):kS f (gI x s).1 (k+1)/\(gI x s).2=(nM x.1.2.1 s).2/\(gI x s).1.1.2.1=(nM x.1.2.1 s).1:=by
 have hb:=E9 h.me hk s;refine⟨⟨?_,hb.2.self,Qz h.me hk h.sync s⟩,hb.1,hb.2.list⟩;rw[hb.2.list];exact h.kept.drop s
def kS.ok{f:cH}{x:Sh}{k:Nat}(h:kS f x k):iy (aG f):=h.kept.fP.ok
def kS.mo{f:cH}{x:Sh}{k:Nat}(h:kS f x k):f.2.1.1.length<=6:=h.kept.fP.st.pre.1
def Ti{rd:Rd}{s:aD}{n:Int}(h:rd s=(AU,n,0)):gS rd s=([(s,0,[3],())],0):=by
 refine PL (PM h WQ rfl) (bs:=[0]) (ps:=[(0,0,3,())]) (w:=[[3]]) rfl ?_ rfl rfl ?_ rfl
 ·rw[Dj rfl (by
   intro i hi;obtain rfl:i=0:=by simp at hi;omega
   simp[nth])]
  have h1:gR [Wl] [0] 0 (0,1,3,[],false,())=(3,.nil):=(AI rfl).trans (Dl (by decide) rfl (by decide));simp[nP,n9,oy,h1,aL.isNil]
 ·intro i hi
  obtain rfl:i=0:=by simp at hi;omega
  unfold tT;decide
def QA:cH:=(cL qm [122,122] AU).1
def IH:cH:=(fE QA [122,122]).1
def Vd:aG QA [122,122]=(AU,1,0):=by decide
def Ve:gS (aG QA) [122,122]=([([122,122],0,[3],())],0):=Ti Vd
def Tj:fR QA:=fR.new.write _ _
def Wp:cH:=((0+1,()),(eU cI [] [122,122] (AU,0+1,()) 0,mT cI [] [122,122] 0,()),())
def Ur:QA=Wp:=rfl
def Vf:Wp.2.1.1.length<=6:=by rw[<-Ur];exact Tj.st.pre.1
def DF:jv Wp vz.1.2.1 [122,122]=([([122,122],0,[3],())],false,0):=by
 rw[show vz.1.2.1=[]from vS.list,xK (fun z=>by rw[It (oW _)]at z;exact Bool.noConfusion z.1),<-Ur,Ve]
def Vh:gT IH []:=(gT.new.write _ _).remove _
def Vi:kS IH jm 0:=⟨Vh,jD,IG⟩
def xL(rd rd':Rd)(ns:List aD):Bool:=ns.all fun n=>decide ((rd' n).2.2=0)&&decide ((rd' n).2.1=(rd n).2.1)
def Tk{rd rd':Rd}{ns:List aD}{i:Nat}(h:i<ns.length):xL rd rd' (ns.take (i+1))=(xL rd rd' (ns.take i)&&(decide ((rd' (nth .str ns i)).2.2=0)&&decide ((rd' (nth .str ns i)).2.1=(rd (nth .str ns i)).2.1))):=by
 unfold xL;rw[gY (t:=.str) h,cp];simp
def Tl{f:cH}(g:fR f){s:aD}(h:(cK (aG f) s).2=0)(rd':Rd):eZ rd' (cK (aG f) s).1=xL (aG f) rd' (aT (aG f) s).1:=by
 obtain⟨ns,os,bs,ps,e1,hr,em⟩:=qG g.ok (aK.2 h);have hp:=(SN g (root:=s) (aK.2 h)).1;rw[em]at hp ⊢;have hs:(aT (aG f) s).1=ns:=by rw[hr.e]
 rw[hs];unfold eZ xL;rw[decide_eq_true hp,Bool.and_true];rw[Bool.eq_iff_iff,cq,cq];constructor
 ·intro ha n hn
  obtain⟨j,hj,rfl⟩:=fZ (t:=.str) hn;have:=ha _ (dJ (t:=aH) (xs:=bW (aG f) ns bs ns.length) (i:=j) (by rw[dP];exact hj));rw[ic hj]at this;exact this
 ·intro ha p hpm
  obtain⟨j,hj,rfl⟩:=fZ (t:=aH) hpm;rw[dP]at hj;rw[ic hj];exact ha _ (dJ (t:=.str) hj)
def kS.built{f:cH}{x:Sh}{k:Nat}(h:kS f x k)(hk:k<=1000){s:aD}(h0:(fL f x s).2=0) :
  (cK (aG f) s).2=0/\jv f (fL f x s).1.1.2.1 s=((gS (aG f) s).1,true,0)/\(aT (aG f) s).2.2=0/\eK (fL f x s).1.1.2.1 s=((cK (aG f) s).1,true):=by
 have hb:=h.build hk s;rw[hb.2.1]at h0;obtain⟨g1,g2⟩:=Fh h0;refine⟨g1,?_,?_,?_⟩
 ·rw[hb.2.2];exact NH h.kept.fP h0
 ·obtain⟨ns,os,bs,ps,e1,hr,em⟩:=qG h.ok (aK.2 g1)
  rw[hr.e]
 ·rw[hb.2.2];exact g2
def kS.used{f:cH}{x:Sh}{k:Nat}(h:kS f x k)(hk:k<=1000){s:aD}(h0:(fL f x s).2=0)(m:List (D cQ)) :
  (jv (fY f m) (fL f x s).1.1.2.1 s).2.1=xL (aG f) (aG (fY f m)) (aT (aG f) s).1/\
  (xL (aG f) (aG (fY f m)) (aT (aG f) s).1=true->(jv (fY f m) (fL f x s).1.1.2.1 s).2.2=0):=by
 have hb:=(h.build hk s).1.done m;obtain⟨b1,b2,b3,b4⟩:=h.built hk h0;obtain⟨c1,c2,c3,c4⟩:=hb.kept.load s;rw[b4,Tl h.kept.fP b1,Bool.true_and]at c3;refine⟨c3,fun hf =>?_⟩;rw[c2];exact c4 (by rw[c3];exact hf)
end Go.Mrl

namespace Go.Vg
open Go
def Kc{H:Type}{enc:TypeId×Value->H}{a:Assume}{C:Checked}{os:Os}{f:FuncId}{fn:Func}{s:ChangeSpec}{conds:List PathCond}{apart fresh handsOn again:Bool}{X:World->Array Value->Prop}
  (hX:∀(w w':World) (args:Array Value),w.heap=w'.heap->X w args->X w' args)
  (own:ownKnob C.prog.godebug=none)(started:os.Started)(noInit:C.prog.inits.idxOf? f=none)(hfn:C.prog.funcs[f]?=some fn)
  (witness:∃(w:World) (tape:Tape) (i:Input),w.os=os/\(w.forCall tape i).Shaped C.prog/\i.vars=[]/\Input.okWide C.prog (w.forCall tape i) .any w.heap.size f i/\
   ((s.pre enc C.prog fn conds apart (w.forCall tape i).memory i.args/\X (w.forCall tape i).memory i.args)/\sizedMet enc C.prog fn (cr s) apart (w.forCall tape i).memory i.args)/\a.holds C.prog (lone (Frame.enter C.prog f i.args .normal) [] (w.forCall tape i)))
  (contract:∀(W:World) (base:Nat) (args:Array Value) (ds gs:List (DataW H)) (before:List MemPlace),
   (∀(j:Nat) t v,fn.params[j]?=some t->args[j]?=some v->Value.okWide C.prog W .any base t v)->
   DataW.Whole enc C.prog fn.params.toList s.vars apart W args.toList ds gs before->
   X W args->W.ShapedOpen C.prog->
   Calls C.prog f args W fun e W'=>∃v,e=.returned v/\s.post enc C.prog fn apart fresh handsOn again W args v W') :
  ReturnsInHanded a C os f .any (fun w args=>(s.pre enc C.prog fn conds apart w args/\X w args)/\sizedMet enc C.prog fn (cr s) apart w args) (s.post enc C.prog fn apart fresh handsOn again):=by
 refine returnsInHanded_of_calls own started noInit witness ?_;intro w tape i _ hsh _ hok hpre hholds;obtain⟨_,_,_,fn',hfn',_,_,_,_,hval⟩:=hok;have e:fn'=fn:=av (hfn'.symm.trans hfn);subst e;obtain⟨⟨⟨ds,gs,before,hw,hc⟩,hx⟩,hz⟩:=hpre;have hw':=DataW.Whole.of_heap (w':=w.forCall tape i) (by rfl) hw;refine(contract (w.forCall tape i) w.heap.size i.args ds gs before hval hw' (hX _ _ _ (by rfl) hx) hsh).mono fun e W' ⟨v,he,hp⟩ =>?_
 subst he;exact ChangeSpec.post_blind hp
def II{P:Program}{w:World}{g:Nat}{t:TypeId}{zero:Array Value}(h:w.ShapedOpen P)(hg:g<P.globals.size)
  (h0:((begin P (fun _ _=>0) default).world.heap[g]?).bind Obj.row?=some (zero,t))(hz:zero.size=1)
  (hb:P.buildable t=true)(hc:P.cellTypes P.depth t=some [t])(hu:P.underlying t=some (.int .i64)):∃m,w.cell? ⟨g,0,none⟩=some (.int .i64 m):=by
 obtain⟨cs,hh,hs,hr⟩:=h.1 g zero t hg h0;obtain⟨ts,hts,_,hall⟩:=hr hb;rw[hc]at hts;cases hts;have h1:0<cs.size:=by omega
 obtain⟨u,hu',hok⟩:=hall 0 cs[0] (by simp[h1]);have:u=t:=by simpa using hu'.symm
 subst this;have hcell:w.cell? ⟨g,0,none⟩=some cs[0]:=by simp[World.cell?,hh,h1]
 rw[hcell];unfold Cell.ok at hok;rw[hu]at hok;cases hv:cs[0] <;> rw[hv]at hok <;> first|exact hok.elim|(obtain⟨rfl,_⟩:=hok;exact⟨_,rfl⟩)|simp at hok
def Us:Option TypeDesc->Bool
 |some (.interface _)=>true
 |_=>false
def ui{P:Program}{W:World}{name nm:String}{d:DataW Unit}{g:Nat}{t:TypeId}
  (hg:P.globalNamed name=some g)(hty:(P.globals[g]?).map (·.type)=some t)(hi:Us (P.underlying t)=true)
  (h:Lib.VarReads P W name (.iface nm d)):∃ev,W.cell? ⟨g,0,none⟩=some ev/\(ev=.nilIface\/∃te pe,ev=.iface te pe):=by
 obtain⟨g',t',cs,fuel,p,hg',ht',hvar,hd⟩:=h;obtain rfl:=av (hg.symm.trans hg');obtain rfl:=av (hty.symm.trans ht');have hc:=World.var?_cell hg hvar 0;obtain⟨ms,hu⟩:∃ms,P.underlying t=some (.interface ms):=by
  unfold Us at hi;split at hi
  ·rename_i ms hm;exact⟨ms,hm⟩
  ·cases hi
 cases fuel with
 |zero=>simp[b7]at hd
 |succ n=>
  cases hl:cs.toList with
  |nil=>rw[hl]at hd;simp[b7,hu]at hd
  |cons v r=>
   have h0:cs[0]?=some v:=by rw[<-Array.getElem?_toList,hl];rfl
   rw[h0]at hc;refine⟨v,hc,?_⟩;rw[hl]at hd;cases v <;> first|exact .inl rfl|exact .inr ⟨_,_,rfl⟩|(simp[b7,hu]at hd)
def IJ{P:Program}{W:World}{name:String}{k:IntKind}{zs:List Int}{g:Nat}{t e:TypeId}{n:Nat}
  (hg:P.globalNamed name=some g)(hty:(P.globals[g]?).map (·.type)=some t)(ht:P.underlying t=some (.array n e))(he:P.underlying e=some (.int k))(hce:P.cellsOf e=1)(hct:P.cellsOf t=n)
  (h:Lib.VarReads P W name (Lib.tabData k zs)):Lib.TabIs P W name k zs:=by
 obtain⟨g',t',cs,fuel,p,hg',ht',hvar,hd⟩:=h;obtain rfl:=av (hg.symm.trans hg');obtain rfl:=av (hty.symm.trans ht');unfold Lib.TabIs;rw[hvar,<-Lib.cells_of_tab ht he hce hct hd]
end Go.Vg

namespace Go.Vg
def NJ(ty:Ty)(st:St)(n:Nat):D ty:=
 match look st.aF n with
 |some (.ext _ t x)=>match h:Ty.beq t ty with
  |true=>cF h x
  |false=>bV ty
 |_=>bV ty
end Go.Vg

namespace Go.Mrl
open Go.Vg
def jf(rd:Rd)(ns:List aD)(i:Nat):List Int:=(ns.take i).map fun n=>(rd n).2.1
def CJ{rd:Rd}{ns:List aD}{i:Nat}(h:i<=ns.length):(jf rd ns i).length=i:=by
 unfold jf;rw[a7,ak];omega
def z1{rd:Rd}{ns:List aD}{i:Nat}(h:i<ns.length):jf rd ns i++[(rd (nth .str ns i)).2.1]=jf rd ns (i+1):=by
 unfold jf;rw[gY (t:=.str) h,cm];rfl
def NK{rd:Rd}{ns:List aD}{i:Nat}(h:i<ns.length):nth (.int .i64) (jf rd ns ns.length) i=(rd (nth .str ns i)).2.1:=by
 refine iA (t:=.int .i64) ?_;unfold jf;rw[bf,List.getElem?_map,mZ (t:=.str) h];rfl
def qN(rd':Rd)(ns:List aD)(ks:List Int)(i:Nat):Bool:=(ar i).all fun j=>decide ((rd' (nth .str ns j)).2.2=0)&&decide ((rd' (nth .str ns j)).2.1=nth (.int .i64) ks j)
def vA(rd':Rd)(ns:List aD)(ks:List Int)(i:Nat):qN rd' ns ks (i+1)=(qN rd' ns ks i&&(decide ((rd' (nth .str ns i)).2.2=0)&&decide ((rd' (nth .str ns i)).2.1=nth (.int .i64) ks i))):=by
 unfold qN;rw[List.range_succ,cp];simp
def Tm{rd rd':Rd}{ns:List aD}{i:Nat}(h:i<=ns.length):qN rd' ns (jf rd ns ns.length) i=xL rd rd' (ns.take i):=by
 induction i with
 |zero=>rfl
 |succ i ih=>rw[vA,Tk h,ih (by omega),NK h]
def Lo{rd rd':Rd}{ns:List aD}:qN rd' ns (jf rd ns ns.length) ns.length=xL rd rd' ns:=by
 rw[Tm (au _),bf]
end Go.Mrl

