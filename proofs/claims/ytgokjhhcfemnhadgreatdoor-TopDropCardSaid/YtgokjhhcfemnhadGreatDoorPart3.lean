/- A part of the proof that the law TopDropCard holds of the given program: facts that are used there. -/
import Derived.Test.YtgokjhhcfemnhadGreatDoorPart2
import Derived.Handed
import Derived.Clock
import Derived.Lib.LaidTab
import Derived.Lib.LaidU8
import Derived.Lay
set_option linter.unusedSimpArgs false
set_option linter.unusedVariables false
set_option linter.defProp false
noncomputable section
open List renaming length_append->ab,take->ad,length_cons->ae,length_set->af,drop->ah,mem_map->ao,length_take->aq,range->ax,length_map->az,map_cons->a7,filter_eq_self->bd,mem_singleton->bf,mem_filter->bh,cons_append->bm,length_range->bo,filter_append->br,length_singleton->bw,filter_cons->bx,mem_append->bz,replicate->b4,nodup_cons->b5,length_eraseIdx->b6,mem_cons->b9,nil_append->cc,length_nil->cd,length_drop->cf,take_length->cg,append_assoc->ch,ext_getElem?->ck,mem_or_eq_of_mem_set->cn,filter_sublist->cq
open Go.Lib renaming splitK->ag,count_one->bb,count->bp,index->bt
open Int renaming toNat_natCast->ai,le_refl->aw,tmod_eq_emod_of_nonneg->ay,le_trans->bg,ofNat_le->b7
open Prod renaming ext->aj
open Nat renaming le_trans->ak,lt_of_lt_of_le->al,le_refl->a8,or_lt_two_pow->ba,mul_le_mul_right->bc,mul_lt_mul_of_pos_right->bq,add_mul->bu,not_lt_zero->cj
open Option.some renaming inj->ar
open Go.IntKind renaming wrap->au,i64->av
open BitVec renaming ofInt->bj
open Classical renaming not_not->bk,byContradiction->cm
open Go.DataW renaming trod->b8
open Bool renaming noConfusion->cp
open Go.OpenSpec renaming ofChange->cr
namespace Go.Mrl
open Go.Vg
def eC(l:List (D aC))(s:aD):Int:=match l.findIdx? (fun e=>decide (e.1=s))with
 |some i=>(i:Int)
 |none =>-1
def rh{l:List (D aC)}{s:aD}(h:∀j,j<l.length->(nth aC l j).1≠s):eC l s= -1:=by
 unfold eC;rw[List.findIdx?_eq_none_iff.2 fun e he=>by
  obtain⟨j,hj,rfl⟩:=fN (t:=aC) he;exact decide_eq_false (h j hj)]
def AW{l:List (D aC)}{s:aD}{i:Nat}(hi:i<l.length)(h:∀j,j<i->(nth aC l j).1≠s)(he:(nth aC l i).1=s):eC l s=(i:Int):=by
 unfold eC;have hn:∀j (hj:j<l.length),l[j]=nth aC l j:=fun j hj=>by unfold nth;rw[List.getD_eq_getElem?_getD,List.getElem?_eq_getElem hj];rfl
 rw[(List.findIdx?_eq_some_iff_getElem (xs:=l) (p:=fun e=>decide (e.1=s)) (i:=i)).2 ⟨hi,by rw[hn i hi];exact decide_eq_true he,fun j hj=>by
  rw[hn j (by omega)];simp only[decide_eq_true_eq];exact h j hj⟩]
def vq(n:Int):Int:=au .u8 n
def jX(n:Int):aD:=bytesOf [vq n,vq (n.fdiv (2^8)),vq (n.fdiv (2^16)),vq (n.fdiv (2^24))]
def fI(a b:Int):aD:=[83]++jX a++jX b
def sP(n:Int):(jX n).length=4:=by simp[jX,bytesOf]
def EZ(a b:Int):(fI a b).length=9:=by simp[fI,sP]
def Qc(a b:Int):Int:=au .i64 (bj av.bits a ||| bj av.bits b).toNat
def Qd(a:Int)(n:Nat):Int:=au .i64 (a*2^n)
def iO(s:aD):Int:=Qc (Qc (Qc ((dS s 0).toNat:Int) (Qd ((dS s 1).toNat:Int) 8)) (Qd ((dS s 2).toNat:Int) 16)) (Qd ((dS s 3).toNat:Int) 24)
def lI:List (D aC)->Int
 |[]=>0
 |e :: r=>if bB e≠0 then bB e else lI r
def fK(l:List (D aC)):aD:=l.flatMap fS
def dN(l:List (D aC)):aD×aL:=if lI l≠0 then([],aI (lI l))else(fK l,.nil)
def Lk:∀{l:List (D aC)} {i:Nat},(∀j,j<i->bB (nth aC l j)=0)->i<l.length->bB (nth aC l i)≠0->lI l=bB (nth aC l i)
 |[],i,_,h,_=>by simp at h
 |e :: r,0,_,_,h=>by unfold lI;rw[if_pos (show bB e≠0 from h)];rfl
 |e :: r,i+1,h,h1,h2=>by
  unfold lI;rw[if_neg (by have:=h 0 (by omega);exact not_not_intro this)];exact Lk (l:=r) (i:=i) (fun j hj=>h (j+1) (by omega)) (by simpa using h1) h2
def E0:∀{l:List (D aC)},(∀j,j<l.length->bB (nth aC l j)=0)->lI l=0
 |[],_=>rfl
 |e :: r,h=>by
  unfold lI;rw[if_neg (by have:=h 0 (by simp);exact not_not_intro this)];exact E0 (l:=r) fun j hj=>h (j+1) (by simp;omega)
def Ii:∀{l:List (D aC)},lI l=0->∀e∈l,bB e=0
 |[],_,_,h=>by simp at h
 |e :: r,hb,x,hx=>by
  unfold lI at hb;split at hb
  ·rename_i h;exact absurd hb h
  ·rename_i h
   rcases b9.1 hx with rfl|hx
   ·exact bk.1 h
   ·exact Ii hb x hx
def Qe{l:List (D aC)}{i:Nat}(h:i<l.length):fK (l.take (i+1))=fK (l.take i)++fS (nth aC l i):=by
 unfold fK;rw[ie (t:=aC) h];simp
def Qf{e:D aC}(h:bB e=0):(fS e).length<=2753:=by
 have:=(lG h).AI e.2.2.1.length;unfold fS re;rw[ab];simp;omega
def AX:∀{l:List (D aC)},(∀e∈l,bB e=0)->(fK l).length<=2753*l.length
 |[],_=>by simp[fK]
 |e :: r,h=>by
  have h1:=Qf (h e (by simp));have h2:=AX (l:=r) fun x hx=>h x (by simp[hx])
  have h3:fK (e :: r)=fS e++fK r:=rfl;rw[h3,ab,ae];omega
def Qg{l:List (D aC)}{i:Nat}(hq:∀j,j<i->bB (nth aC l j)=0)(hi:i<l.length)(h:(dG (nth aC l i)).2.isNil=false):([],(dG (nth aC l i)).2)=dN l:=by
 have hf:bB (nth aC l i)≠0:=fun e=>by rw[Ib,e]at h;cases h
 unfold dN;rw[Lk hq hi hf,if_pos hf,Ib]
def S7{l:List (D aC)}{i:Nat}(hq:∀j,j<i->bB (nth aC l j)=0)(hi:¬i<l.length):(fK (l.take i),aL.nil)=dN l:=by
 unfold dN;rw[E0 fun j hj=>hq j (by omega),if_neg (by decide),List.take_of_length_le (by omega)]
def Qh{l:List (D aC)}{i:Nat}(h:i<l.length)(ht:(dG (nth aC l i)).2.isNil=true):fK (l.take (i+1))=fK (l.take i)++(dG (nth aC l i)).1:=by
 rw[Qe h,(vm ht).2]
def Qi{l:List (D aC)}{i:Nat}(hl:l.length<=100)(hi:i<l.length)(hq:∀j,j<i->bB (nth aC l j)=0):(fK (l.take i)).length<=275300:=by
 have h1:∀e∈l.take i,bB e=0:=fun e he=>by
  obtain⟨j,hj,rfl⟩:=fN (t:=aC) he;rw[aq]at hj;rw[AE (t:=aC) (by omega)];exact hq j (by omega)
 have h2:=AX h1;rw[aq]at h2;omega
def mr(bs:List Int):Dk->Int->List Nat->Dk×Int
 |d,_,[]=>(d,0)
 |d,s,i :: r=>if(bK d s (bytesOf (eH (t:=.int .u8) bs 64 i))).2=0 then mr bs (bK d s (bytesOf (eH (t:=.int .u8) bs 64 i))).1 (s+1) r else bK d s (bytesOf (eH (t:=.int .u8) bs 64 i))
def Ij(bs:List Int)(i:Nat):∀(pre:List Nat) (d:Dk) (s:Int),(mr bs d s pre).2=0->
  mr bs d s (pre++[i])=bK (mr bs d s pre).1 (s+pre.length) (bytesOf (eH (t:=.int .u8) bs 64 i))
 |[],d,s,_=>by
  simp only[cc,mr,cd];rw[show s+((0:Nat):Int)=s by omega];split
  ·rename_i h
   exact aj rfl h.symm
  ·rfl
 |j :: r,d,s,h=>by
  simp only[bm,mr]at h ⊢;split
  ·rename_i h1
   rw[if_pos h1]at h;rw[Ij bs i r _ _ h,ae];congr 1;omega
  ·rename_i h1
   rw[if_neg h1]at h;exact absurd h h1
structure dA (d:Dk) (m:Nat):Prop where
 mb : -1<=(d.1.1:Int)
 lO:d.2.2.2.1.length<=m
 len:d.2.1.length=d.2.2.1.length
def dA.mono{d:Dk}{m m':Nat}(h:dA d m)(hm:m<=m'):dA d m':=⟨h.mb,ak h.lO hm,h.len⟩
def sQ{d:Dk}{m:Nat}(h:dA d m):dA (stepOf d).1 m:=by
 unfold stepOf;split
 ·exact h
 ·split
  ·exact⟨aw _,h.lO,h.len⟩
  ·refine⟨?_,h.lO,h.len⟩
   have:=h.mb;show -1<=(if 0<d.1.1 then d.1.1-1 else d.1.1);split <;> omega
def mc{d:Dk}{m:Nat}(h:dA d m)(a:Int)(s:aD):dA (bK d a s).1 (m+1):=by
 unfold bK;split
 ·exact h.mono (by omega)
 ·split
  ·refine⟨(sQ h).mb,?_,?_⟩
   ·show(d.2.2.2.1++[(a,eJ s,())]).length<=m+1
    rw[ab];have:=h.lO;simp;omega
   ·show d.2.1.length=(d.2.2.1.set a.toNat (eJ s)).length
    rw[af];exact h.len
  ·exact(sQ h).mono (by omega)
def ri{d:Dk}{m:Nat}(h:dA d m):dA (bP d).1 m:=by
 unfold bP;split
 ·exact⟨(sQ h).mb,Nat.zero_le _,rfl⟩
 ·exact sQ h
def Ik(bs:List Int):∀(pre:List Nat) {d:Dk} {s:Int} {m:Nat},dA d m->dA (mr bs d s pre).1 (m+pre.length)
 |[],_,_,_,h=>h
 |i :: r,d,s,m,h=>by
  simp only[mr];split
  ·exact(Ik bs r (mc h _ _)).mono (by simp;omega)
  ·exact(mc h _ _).mono (by simp)
def ik(l:List (D aC))(r:Int)(d:Dk)(pre:List Nat):Dk×Int:=mr (bJ (dN l).1) d (2+(r+1).tmod 2*55) pre
def il(l:List (D aC)):List Nat:=ax (fM (bJ (dN l).1).length 64)
def Cw(l:List (D aC))(r:Int)(d:Dk):Dk×Int:=bP (ik l r d (il l)).1
def vU(l:List (D aC))(r:Int)(d:Dk):Dk×Int:=bK (Cw l r d).1 ((r+1).tmod 2) (fI (r+1) (dN l).1.length)
def eK(d:Dk)(r:Int)(l:List (D aC)):Dk×Int:=
 if lI l≠0 then(d,lI l)
 else if(ik l r d (il l)).2≠0 then ik l r d (il l)
 else if(Cw l r d).2≠0 then Cw l r d
 else if(vU l r d).2≠0 then vU l r d
 else bP (vU l r d).1
def Ux{r:Int}(h:0<=r):0<=(r+1).tmod 2/\(r+1).tmod 2<=1:=by rw[ay (by omega)];omega
def E1{l:List (D aC)}(h:l.length<=100):(dN l).1.length<=275300:=by
 unfold dN;split
 ·simp
 ·rename_i hb
  have:=AX (Ii (bk.1 hb));show(fK l).length<=275300;omega
def qJ{l:List (D aC)}(h:(dN l).2.isNil=true):(dN l).2=.nil/\lI l=0:=by
 unfold dN at h ⊢;split at h
 ·rename_i hb;exact absurd (aP.1 h) hb
 ·rename_i hb;rw[if_neg hb];exact⟨rfl,bk.1 hb⟩
def Il{l:List (D aC)}{r:Int}{d:Dk}(h:dA d 1000000)(pre:List Nat):dA (ik l r d pre).1 (1000000+pre.length):=Ik _ pre h
def vr{l:List (D aC)}(h:l.length<=100):fM (bJ (dN l).1).length 64<=5000:=by
 have:=E1 h;unfold fM;rw[bJ,az];omega
def Qj{l:List (D aC)}(d:Dk)(r:Int)(h:(dN l).2.isNil=false):eK d r l=(d,lI l)/\lI l≠0/\(dN l).2=aI (lI l):=by
 have hb:lI l≠0:=fun e=>by unfold dN at h;rw[if_neg (not_not_intro e)]at h;cases h
 exact⟨by unfold eK;rw[if_pos hb],hb,by unfold dN;rw[if_pos hb]⟩
def r7{l o:List (D aC)}{d:Dk}{r:Int}{z:Dk×Int}(hk:eK d r l=z)(hz:z.2≠0) :
  (((r,o,()),z.1):(Int×List (D aC)×Unit)×Dk)=(if(eK d r l).2=0 then(r+1,l,())else(r,o,()),(eK d r l).1)/\(aI z.2,())=(aI (eK d r l).2,()):=by
 rw[hk,if_neg hz];exact⟨rfl,rfl⟩
def Qk{l o:List (D aC)}{d:Dk}{r:Int}{z:Dk×Int}(hk:eK d r l=z)(hz:z.2=0) :
  (((r+1,l,()),z.1):(Int×List (D aC)×Unit)×Dk)=(if(eK d r l).2=0 then(r+1,l,())else(r,o,()),(eK d r l).1)/\(aI z.2,())=(aI (eK d r l).2,()):=by
 rw[hk,if_pos hz];exact⟨rfl,rfl⟩
def Im(bs:List Int)(i:Nat)(rest:List Nat):∀(pre:List Nat) (d:Dk) (s:Int),(mr bs d s pre).2=0->(bK (mr bs d s pre).1 (s+pre.length) (bytesOf (eH (t:=.int .u8) bs 64 i))).2≠0->
  mr bs d s (pre++i :: rest)=bK (mr bs d s pre).1 (s+pre.length) (bytesOf (eH (t:=.int .u8) bs 64 i))
 |[],d,s,_,h=>by
  simp only[cc,mr,cd]at h ⊢;rw[show s+((0:Nat):Int)=s by omega]at h ⊢;rw[if_neg h]
 |j :: r,d,s,h,h2=>by
  simp only[bm,mr]at h h2 ⊢;by_cases h1:(bK d s (bytesOf (eH (t:=.int .u8) bs 64 j))).2=0
  ·simp only[if_pos h1]at h h2 ⊢
   rw[ae,show s+((r.length+1:Nat):Int)=s+1+(r.length:Int) by omega]at h2 ⊢;exact Im bs i rest r _ _ h h2
  ·rw[if_neg h1]at h
   exact absurd h h1
def S8{i m:Nat}(h:i<m):∃rest,ax m=ax i++i :: rest:=by
 obtain⟨b,rfl⟩:∃b,m=i+(b+1):=⟨m-i-1,by omega⟩
 rw[List.range_add,List.range_succ_eq_map];exact⟨_,by simp only[a7,Nat.add_zero];rfl⟩
def Nu{l:List (D aC)}{d:Dk}{r:Int}{pre:List Nat}{i:Nat}(h0:(dN l).2.isNil=true)(hp:(ik l r d pre).2=0)(e:pre=ax i)(hi:pre.length<fM (bJ (dN l).1).length 64)
  (hw:(bK (ik l r d pre).1 (2+(r+1).tmod 2*55+(pre.length:Int)) (bytesOf (eH (t:=.int .u8) (bJ (dN l).1) 64 i))).2≠0) :
  eK d r l=bK (ik l r d pre).1 (2+(r+1).tmod 2*55+(pre.length:Int)) (bytesOf (eH (t:=.int .u8) (bJ (dN l).1) 64 i)):=by
 have hil:i<fM (bJ (dN l).1).length 64:=by rw[e,bo]at hi;exact hi
 obtain⟨rest,hr⟩:=S8 hil;have hall:ik l r d (il l)=bK (ik l r d pre).1 (2+(r+1).tmod 2*55+(pre.length:Int)) (bytesOf (eH (t:=.int .u8) (bJ (dN l).1) 64 i)):=by
  unfold ik il;rw[hr,<-e];exact Im _ i rest pre d _ hp hw
 unfold eK;rw[if_neg (not_not_intro (qJ h0).2),hall,if_pos hw]
def Io{l:List (D aC)}{d:Dk}{r:Int}{pre:List Nat}(i:Nat)(hp:(ik l r d pre).2=0) :
  ik l r d (pre++[i])=bK (ik l r d pre).1 (2+(r+1).tmod 2*55+(pre.length:Int)) (bytesOf (eH (t:=.int .u8) (bJ (dN l).1) 64 i)):=Ij _ i pre d _ hp
def Ve{l:List (D aC)}{d:Dk}{r:Int}(h0:(dN l).2.isNil=true)(hp:(ik l r d (il l)).2=0)(hf:(Cw l r d).2≠0):eK d r l=Cw l r d:=by
 unfold eK;rw[if_neg (not_not_intro (qJ h0).2),if_neg (not_not_intro hp),if_pos hf]
def Vf{l:List (D aC)}{d:Dk}{r:Int}(h0:(dN l).2.isNil=true)(hp:(ik l r d (il l)).2=0)(hf:(Cw l r d).2=0)(hh:(vU l r d).2≠0):eK d r l=vU l r d:=by
 unfold eK;rw[if_neg (not_not_intro (qJ h0).2),if_neg (not_not_intro hp),if_neg (not_not_intro hf),if_pos hh]
def E2{l:List (D aC)}{d:Dk}{r:Int}(h0:(dN l).2.isNil=true)(hp:(ik l r d (il l)).2=0)(hf:(Cw l r d).2=0)(hh:(vU l r d).2=0):eK d r l=bP (vU l r d).1:=by
 unfold eK;rw[if_neg (not_not_intro (qJ h0).2),if_neg (not_not_intro hp),if_neg (not_not_intro hf),if_neg (not_not_intro hh)]
def AY{l:List (D aC)}{r:Int}{d:Dk}(hl:l.length<=100)(h:dA d 1000000):dA (ik l r d (il l)).1 1005000:=
 (Il h (il l)).mono (by have:=vr hl;unfold il;rw[bo];omega)
abbrev Sh:=(Int×List (D aC)×Unit)×Dk
def qn(x:Sh)(l:List (D aC)):Sh×Int:=((if(eK x.2 x.1.1 l).2=0 then(x.1.1+1,l,())else x.1,(eK x.2 x.1.1 l).1),(eK x.2 x.1.1 l).2)
def qo(l:List (D aC))(e:D aC):Option (List (D aC)):=if 0<=eC l e.1 then some (l.set (eC l e.1).toNat e)else if l.length=3 then none else some (l++[e])
def ky(x:Sh)(e:D aC):Sh×Int:=
 if bB e≠0 then(x,bB e)else match qo x.1.2.1 e with
  |none=>(x,2)
  |some l=>qn x l
def dO(l:List (D aC))(s:aD):D aC×Bool:=if 0<=eC l s then(nth aC l (eC l s).toNat,true)else(bW aC,false)
def dH(x:Sh)(s:aD):Sh×Int:=
 if 0<=eC x.1.2.1 s then qn x (x.1.2.1.eraseIdx (eC x.1.2.1 s).toNat)else(x,5)
def p3(l:List (D aC))(s:aD):eC l s<l.length/\-1<=eC l s:=by
 unfold eC;split
 ·rename_i i h
  obtain⟨h1,_⟩:=List.findIdx?_eq_some_iff_getElem.1 h;omega
 ·omega
def E3{x:Sh}{e:D aC}(h:bB e≠0):ky x e=(x,bB e):=by unfold ky;rw[if_pos h]
def Ll{x:Sh}{e:D aC}(h:bB e=0)(hi:0<=eC x.1.2.1 e.1):ky x e=qn x (x.1.2.1.set (eC x.1.2.1 e.1).toNat e):=by
 unfold ky qo;rw[if_neg (not_not_intro h),if_pos hi]
def Ip{x:Sh}{e:D aC}(h:bB e=0)(hi:¬0<=eC x.1.2.1 e.1)(hl:(x.1.2.1.length:Int)=3):ky x e=(x,2):=by
 unfold ky qo;rw[if_neg (not_not_intro h),if_neg hi,if_pos (by omega)]
def Dx{x:Sh}{e:D aC}(h:bB e=0)(hi:¬0<=eC x.1.2.1 e.1)(hl:¬(x.1.2.1.length:Int)=3):ky x e=qn x (x.1.2.1++[e]):=by
 unfold ky qo;rw[if_neg (not_not_intro h),if_neg hi,if_neg (by omega)]
def xH{α:Type}{o:List α}{b:Bool}(q:0<o.length->b=false)(h:b=true):o=[]:=by
 cases o with
 |nil=>rfl
 |cons a t=>rw[q (by simp)]at h;cases h
def fX(l:List (D aC)):List aD:=l.map (·.1)
def zX{l:List (D aC)}{i:Nat}(h:i<l.length):fX (l.take i)++[(nth aC l i).1]=fX (l.take (i+1)):=by
 rw[ie (t:=aC) h];simp[fX]
def Nv(l:List (D aC)):(fX l).length=l.length:=by simp[fX]
def yA{l:List (D aC)}{s:aD}(h:0<=eC l s):dO l s=(nth aC l (eC l s).toNat,true):=by unfold dO;rw[if_pos h]
def Cy{l:List (D aC)}{s:aD}(h:¬0<=eC l s):dO l s=(bW aC,false):=by unfold dO;rw[if_neg h]
def oW(s:aD):¬0<=eC [] s:=fun h=>absurd (show(0:Int)<=-1 from h) (by decide)
def oN(l:List (D aC))(e:D aC):List (D aC)×Int:=if bB e > 0 then(l,bB e)else match qo l e with
 |none=>(l,2)
 |some l'=>(l',0)
def nL(l:List (D aC))(s:aD):List (D aC):=l.filter fun e=>decide (e.1≠s)
def jw(l:List (D aC))(s:aD):List (D aC)×Int:=if(nL l s).length=l.length then(l,5)else(nL l s,0)
def Nw{l:List (D aC)}{e:D aC}(h:bB e > 0):oN l e=(l,bB e):=by unfold oN;rw[if_pos h]
def S9{l:List (D aC)}{e:D aC}{i:Nat}(h:¬bB e > 0)(hi:i<l.length)(hq:∀j,j<i->(nth aC l j).1≠e.1)(he:(nth aC l i).1=e.1):oN l e=(l.set i e,0):=by
 have hf:=AW hi hq he;unfold oN qo;rw[if_neg h,if_pos (by rw[hf];omega),hf];rfl
def Ql{l:List (D aC)}{e:D aC}(h:¬bB e > 0)(hq:∀j,j<l.length->(nth aC l j).1≠e.1)(hl:(l.length:Int)=3):oN l e=(l,2):=by
 unfold oN qo;rw[if_neg h,if_neg (by rw[rh hq];decide),if_pos (by omega)]
def Ta{l:List (D aC)}{e:D aC}(h:¬bB e > 0)(hq:∀j,j<l.length->(nth aC l j).1≠e.1)(hl:¬(l.length:Int)=3):oN l e=(l++[e],0):=by
 unfold oN qo;rw[if_neg h,if_neg (by rw[rh hq];decide),if_neg (by omega)]
def dL(c:UInt8)(s:aD):List aD:=ag [c] 1 (bp s [c]) s
def E4(sep:aD)(save:Nat):∀(k:Nat) (s:aD),∀y∈ag sep save k s,y.length<=s.length
 |0,s,y,h=>by simp[ag]at h;subst h;exact a8 _
 |k+1,s,y,h=>by
  unfold ag at h;split at h
  ·simp at h;subst h;exact a8 _
  ·rcases b9.1 h with rfl|h
   ·rw[aq];exact Nat.min_le_right _ _
   ·exact ak (E4 sep save k _ y h) (by rw[cf];omega)
def E5(c:UInt8)(s y:aD)(h:y∈dL c s):y.length<=s.length:=E4 _ _ _ _ _ h
def gD(d:Dk):Dk×Int:=
 if(d.2.2.1.length:Int)<112 then(d,8)
 else if(bK d 1 []).2≠0 then bK d 1 []
 else if(bP (bK d 1 []).1).2≠0 then bP (bK d 1 []).1
 else if(bK (bP (bK d 1 []).1).1 0 (fI 2 0)).2≠0 then bK (bP (bK d 1 []).1).1 0 (fI 2 0)
 else bP (bK (bP (bK d 1 []).1).1 0 (fI 2 0)).1
def Vh{d:Dk}(h:(d.2.2.1.length:Int)<112):gD d=(d,8):=by unfold gD;rw[if_pos h]
def W5{d:Dk}(h:¬(d.2.2.1.length:Int)<112)(h1:(bK d 1 []).2≠0):gD d=bK d 1 []:=by unfold gD;rw[if_neg h,if_pos h1]
def W6{d:Dk}(h:¬(d.2.2.1.length:Int)<112)(h1:(bK d 1 []).2=0)(h2:(bP (bK d 1 []).1).2≠0):gD d=bP (bK d 1 []).1:=by
 unfold gD;rw[if_neg h,if_neg (not_not_intro h1),if_pos h2]
def W7{d:Dk}(h:¬(d.2.2.1.length:Int)<112)(h1:(bK d 1 []).2=0)(h2:(bP (bK d 1 []).1).2=0)(h3:(bK (bP (bK d 1 []).1).1 0 (fI 2 0)).2≠0):gD d=bK (bP (bK d 1 []).1).1 0 (fI 2 0):=by
 unfold gD;rw[if_neg h,if_neg (not_not_intro h1),if_neg (not_not_intro h2),if_pos h3]
def W8{d:Dk}(h:¬(d.2.2.1.length:Int)<112)(h1:(bK d 1 []).2=0)(h2:(bP (bK d 1 []).1).2=0)(h3:(bK (bP (bK d 1 []).1).1 0 (fI 2 0)).2=0):gD d=bP (bK (bP (bK d 1 []).1).1 0 (fI 2 0)).1:=by
 unfold gD;rw[if_neg h,if_neg (not_not_intro h1),if_neg (not_not_intro h2),if_neg (not_not_intro h3)]
def ru{a b:Nat}(ha:a<2^40)(hb:b<2^40):Qc (a:Int) (b:Int)=((a ||| b:Nat):Int):=by
 have hlt:a ||| b<2^40:=ba ha hb
 have e:∀n:Nat,bj av.bits (n:Int)=BitVec.ofNat av.bits n:=fun n=>BitVec.ofInt_natCast _ n
 unfold Qc;rw[e,e,<-BitVec.ofNat_or,BitVec.toNat_ofNat,Nat.mod_eq_of_lt (al hlt (by decide))];exact lC (by omega) (by omega)
def rv{a k:Nat}(ha:a<2^8)(hk:k<=24):Qd (a:Int) k=((a*2^k:Nat):Int):=by
 unfold Qd;have h1:2^k<=2^24:=Nat.pow_le_pow_right (by decide) hk;have h2:a*2^k<=255*2^24:=Nat.mul_le_mul (by omega) h1;rw[show((a:Nat):Int)*(2:Int)^k=((a*2^k:Nat):Int) by simp];exact lC (by omega) (by omega)
def zY(s:aD):∃n:Nat,iO s=(n:Int)/\n<2^32:=by
 have hb:∀i,(dS s i).toNat<2^8:=fun i=>(dS s i).toNat_lt
 have h1:(dS s 1).toNat*2^8<2^32:=al (bq (hb 1) (by decide)) (by decide);have h2:(dS s 2).toNat*2^16<2^32:=al (bq (hb 2) (by decide)) (by decide);have h3:(dS s 3).toNat*2^24<2^32:=al (bq (hb 3) (by decide)) (by decide);have h0:(dS s 0).toNat<2^32:=al (hb 0) (by decide);have w:∀{n:Nat},n<2^32->n<2^40:=fun h=>al h (by decide)
 unfold iO;rw[rv (hb 1) (by decide),rv (hb 2) (by decide),rv (hb 3) (by decide),ru (w h0) (w h1)];have a1:=ba h0 h1;rw[ru (w a1) (w h2)];have a2:=ba a1 h2;rw[ru (w a2) (w h3)];exact⟨_,rfl,ba a2 h3⟩
def xI(d:Dk)(i:Int):aD:=nth .str d.2.2.1 (Int.toNat i)
def pI(d:Dk)(i:Nat):Int:=iO (ah 1 (ad 5 (xI d i)))
def qI(d:Dk)(i:Nat):Int:=iO (ah 5 (ad 9 (xI d i)))
def eI(d:Dk):Nat->Int×Int
 |0=>(0,0)
 |i+1=>if((dS (xI d i) 0).toNat:Int)=83/\(eI d i).1<pI d i/\qI d i<=3520 then(pI d i,qI d i)else eI d i
def jn(d:Dk)(b:Int):Nat->aD
 |0=>[]
 |i+1=>jn d b i++xI d (b+(i:Int))
def km(L:List aD):List (D aC):=(L.filter fun s=>decide (s≠[])).map fun s=>(gV s).1
def Iq(L:List aD):Prop:=∃j,j<L.length/\nth .str L j≠[]/\(gV (nth .str L j)).2.isNil=false
def kV(d:Dk):Int:=2+(eI d 2).1.tmod 2*55
def dJ(d:Dk):List aD:=dL 10 (ad (eI d 2).2.toNat (jn d (kV d) 55))
open Classical in
def dP(d:Dk):(Int×List (D aC))×Int:=
 if d.1.2.1=true then((0,[]),9)else if(d.2.2.1.length:Int)<112 then((0,[]),4)else if(eI d 2).1=0 then((0,[]),4)
 else if Iq (dJ d)then((0,[]),4)else(((eI d 2).1,km (dJ d)),0)
def Cz(d:Dk):eI d 0=(0,0):=rfl
def Uy(d:Dk)(i:Nat):eI d (i+1)=if((dS (xI d i) 0).toNat:Int)=83/\(eI d i).1<pI d i/\qI d i<=3520 then(pI d i,qI d i)else eI d i:=rfl
def Uz(d:Dk)(b:Int):jn d b 0=[]:=rfl
def Nx(d:Dk)(b:Int)(i:Nat):jn d b (i+1)=jn d b i++xI d (b+(i:Int)):=rfl
def p4(d:Dk)(i:Nat):pI d i=iO (ah 1 (ad 5 (nth .str d.2.2.1 i))):=rfl
def ry(d:Dk)(i:Nat):qI d i=iO (ah 5 (ad 9 (nth .str d.2.2.1 i))):=rfl
def kE(d:Dk):kV d=2+(eI d 2).1.tmod 2*55:=rfl
def gL(d:Dk):dJ d=dL 10 (ad (eI d 2).2.toNat (jn d (kV d) 55)):=rfl
def uh{d:Dk}{i:Nat}(h1:((dS (nth .str d.2.2.1 i) 0).toNat:Int)=83)(h2:(eI d i).1<pI d i)(h3:qI d i<=3520):eI d (i+1)=(pI d i,qI d i):=by rw[Uy];exact if_pos ⟨h1,h2,h3⟩
def yB{d:Dk}{i:Nat}(h:¬(((dS (nth .str d.2.2.1 i) 0).toNat:Int)=83/\(eI d i).1<pI d i/\qI d i<=3520)):eI d (i+1)=eI d i:=by rw[Uy];exact if_neg h
def gK(d:Dk):∀i,(0<=(eI d i).1/\(eI d i).1<4294967296)/\0<=(eI d i).2/\(eI d i).2<=3520
 |0=>by rw[Cz];decide
 |i+1=>by
  by_cases h:((dS (nth .str d.2.2.1 i) 0).toNat:Int)=83/\(eI d i).1<pI d i/\qI d i<=3520
  ·rw[uh h.1 h.2.1 h.2.2]
   obtain⟨n,e,hn⟩:=zY (ah 1 (ad 5 (nth .str d.2.2.1 i)));obtain⟨m,e2,hm⟩:=zY (ah 5 (ad 9 (nth .str d.2.2.1 i)));have h3:=h.2.2;rw[p4,ry,e,e2];rw[ry,e2]at h3;refine⟨⟨by omega,?_⟩,by omega,h3⟩;have:(n:Int)<((2^32:Nat):Int):=Int.ofNat_lt.2 hn;simpa using this
  ·rw[yB h];exact gK d i
def sR{a:Int}(h:0<=a):0<=a.tmod 2/\a.tmod 2<=1:=by rw[ay h];omega
def kG{d:Dk}(hs:∀i,i<d.2.2.1.length->(nth .str d.2.2.1 i).length=64){b:Int}(hb:0<=b):∀n:Nat,b+(n:Int)<=d.2.2.1.length->(jn d b n).length=64*n
 |0,_=>by rw[Uz];rfl
 |n+1,h=>by
  rw[Nx,ab,kG hs hb n (by omega),show(xI d (b+(n:Int))).length=64 from hs _ (by omega)];omega
def Qm{d:Dk}(h:d.1.2.1=true):dP d=((0,[]),9):=by unfold dP;rw[if_pos h]
def Tb{d:Dk}(h1:d.1.2.1=false)(h:(d.2.2.1.length:Int)<112):dP d=((0,[]),4):=by unfold dP;rw[if_neg (by rw[h1];decide),if_pos h]
def Qn{d:Dk}(h1:d.1.2.1=false)(h:¬(d.2.2.1.length:Int)<112)(h5:(eI d 2).1=0):dP d=((0,[]),4):=by unfold dP;rw[if_neg (by rw[h1];decide),if_neg h,if_pos h5]
def Td{d:Dk}(h1:d.1.2.1=false)(h:¬(d.2.2.1.length:Int)<112)(h5:¬(eI d 2).1=0)(hb:Iq (dJ d)):dP d=((0,[]),4):=by unfold dP;rw[if_neg (by rw[h1];decide),if_neg h,if_neg h5,if_pos hb]
def Lm{d:Dk}(h1:d.1.2.1=false)(h:¬(d.2.2.1.length:Int)<112)(h5:¬(eI d 2).1=0)(hb:¬Iq (dJ d)):dP d=(((eI d 2).1,km (dJ d)),0):=by unfold dP;rw[if_neg (by rw[h1];decide),if_neg h,if_neg h5,if_neg hb]
def Qo{L:List aD}{i:Nat}(h:i<L.length)(he:nth .str L i=[]):km (L.take (i+1))=km (L.take i):=by
 unfold km;rw[ie (t:=.str) h,br,he];simp
def Qp{L:List aD}{i:Nat}(h:i<L.length)(he:nth .str L i≠[]):km (L.take (i+1))=km (L.take i)++[(gV (nth .str L i)).1]:=by
 unfold km;rw[ie (t:=.str) h,br];simp[he]
def Te(L:List aD):(km L).length<=L.length:=by unfold km;rw[az];exact List.length_filter_le _ _
def Vi{L:List aD}{i:Nat}(hi:¬i<L.length)(h:∀j,j<i->nth .str L j=[]\/(gV (nth .str L j)).2.isNil=true):¬Iq L:=by
 rintro⟨j,h1,h2,h3⟩;rcases h j (by omega)with h|h
 ·exact h2 h
 ·rw[h]at h3;cases h3
def CA(sep:aD)(save:Nat):∀(k:Nat) (s:aD),(ag sep save k s).length<=k+1
 |0,s=>by simp[ag]
 |k+1,s=>by
  unfold ag;split
  ·simp
  ·rw[ae];have:=CA sep save k (s.drop ((bt s sep).toNat+sep.length));omega
def Ny(c:UInt8)(s:aD):(dL c s).length<=s.length+1:=by
 unfold dL;refine ak (CA _ _ _ _) ?_;rw[bb];have:=List.count_le_length (a:=c) (l:=s);omega
def Qq:km []=[]:=rfl
def iP(d:Dk):Dk×Int:=Classical.choose (⟨gD d,rfl⟩:∃y,y=gD d)
def me(d:Dk):iP d=gD d:=Classical.choose_spec (⟨gD d,rfl⟩:∃y,y=gD d)
attribute [irreducible] eI jn km kV dJ pI qI
end Go.Mrl

namespace Go.Vg
open Go.RowKit
def Dy(t:Ty):aT:=fun args st K=>
 match args with
 |[.one (.aU n),.one a,.one b]=>match look st.aF n,sh (.int .i64) a,sh (.int .i64) b with
  |some (.aU t' xs),some i,some j=>match Ty.beq t' t with
   |true =>.and (0<=(i:Int)/\(i:Int)<(j:Int)/\(j:Int)<=xs.length)
     (K (.s (.one (.aU st.next))) (fresh (bA (bA st n) n) (.aU t' (xs.take (i:Int).toNat++xs.drop (j:Int).toNat))))
   |false =>.ff
  |_,_,_ =>.ff
 |_ =>.ff
def Qr(P:Program)(f:FuncId)(sz:Nat):Prop:=∀(b i j n cap:Nat) (vs:Array Value) (T:TypeId) (w:World),w.heap[b]?=some (.cells vs T (0,0))->vs.size=cap*sz->i<j->j<=n->n<=cap->n<=aM->
 (∀(k:Nat) u,k<n*sz->vs[k]?=some u->u.oneCell'=true)->
 Calls P f #[.slice (some ⟨b,0,none⟩) n cap,.int .i64 (i:Int),.int .i64 (j:Int)] w fun e w'=>e=.returned (.slice (some ⟨b,0,none⟩) (i+(n-j)) cap)/\w'.os=w.os/\w'.output=w.output/\w'.heap.size=w.heap.size/\(∀k,k≠b->w'.heap[k]?=w.heap[k]?)/\
  ∃vs':Array Value,w'.heap[b]?=some (.cells vs' T (0,0))/\vs'.size=vs.size/\∀k,k<(i+(n-j))*sz->vs'[k]?=vs[if k<i*sz then k else k+(j-i)*sz]?
def Tf{i j:Int}{n:Nat}(h0:0<=i)(hij:i<j)(hj:j<=n):∃i' j':Nat,i=(i':Int)/\j=(j':Int)/\i'<j'/\j'<=n:=
 ⟨i.toNat,j.toNat,by omega,by omega,by omega,by omega⟩
section
variable{P:Program}{X:Ext}{f:FuncId}
def Nz{B:Cx}{t:Ty}(hfn:∃fn,P.funcs[f]?=some fn/\fn.body.isNone=false/\(fn.name == "runtime.NumGoroutine")=false)(H:Qr P f t.size) :
  bX P B.eT X f false (Dy t):=by
 refine⟨hfn,fun O st loc w args vs K hs g hO ha =>?_⟩;unfold Dy at hs;split at hs
 case h_2=>exact hs.elim
 rename_i n ca cb;split at hs
 case h_2=>exact hs.elim
 rename_i t' xs i j hob hi hj;split at hs
 case h_2=>exact hs.elim
 rename_i ht;have ht':=Ty.eq_of_beq ht;subst ht';obtain⟨⟨h0,hij,hjx⟩,hs⟩:=hs
 match vs,ha with
 |[v0,v1,v2],.cons a0 (.cons a1 (.cons a2 .nil))=>
 have key:=Tf h0 hij hjx;clear h0 hij hjx;obtain⟨i,j,rfl,rfl,hij,hjx⟩:=key;have hs:(K (.s (.one (.aU st.next))) (fresh (bA (bA st n) n) (.aU t' (xs.take i++xs.drop j)))).holds:=hs;have e1:v1=.int .i64 (i:Int):=(cQ.1 (pL hi a1)).1;have e2:v2=.int .i64 (j:Int):=(cQ.1 (pL hj a2)).1;subst e1 e2;have hvl:=a0.2 _ _ hob;rcases(g.obj n _ hob).2 with⟨rfl,_⟩|⟨b,cs,T,cap,hl1,gZ,hheap,hsz,hfit,hbig,he⟩
 ·simp at hjx;omega
 have hv0:=hvl.trans hl1;subst hv0;have hxs:List.length xs*t'.size<=cs.size:=by rw[hsz];exact bc _ hfit
 obtain⟨olds,ho,ho1,ho3,ho4⟩:=qb (cx:=B) he hxs;refine(H b i j xs.length cap cs T w hheap hsz hij hjx hfit hbig (fun k u hk hu=>ho4 u ?_)).mono ?_
 ·refine List.mem_of_getElem? (i:=k) ?_
  rw[ho,List.getElem?_take,if_pos hk,Array.getElem?_toList];exact hu
 rintro r w' ⟨rfl,k1,k2,k3,k4,cs',k5,k6,k7⟩;have hl':(xs.take i++xs.drop j).length=i+(xs.length-j):=by rw[ab,aq,cf];omega
 obtain⟨tr,gd⟩:=qY (w':=w') (oc:=.aU t' (xs.take i++xs.drop j)) (l:=⟨.slice (some ⟨b,0,none⟩) (i+(xs.length-j)) cap,[b]⟩) g hO n n k1 k2 (Nat.le_of_eq k3.symm)
  (fun k oc' hk hl=>by
   have:k=n:=by rcases hk with h|h <;> exact h
   subst this;rw[hob]at hl;cases hl;rfl)
  (fun b' hlt hb=>k4 b' fun e'=>hb n _ (.inl rfl) hob (by rw[e',show(loc n).bs=_ from gZ];simp))
  (fun b' hbm=>by
   simp at hbm;subst hbm;exact .inl ⟨n,_,.inl rfl,hob,by rw[show(loc n).bs=_ from gZ];simp⟩)
 have gd:=gd (.inr ⟨b,cs',T,cap,by rw[hl'],rfl,k5,by rw[k6,hsz],by rw[hl'];omega,by rw[hl'];unfold aM at*;omega,fun k y hy=>by
  have hk:k<i+(xs.length-j):=by have:=bG hy;rw[hl']at this;exact this
  obtain⟨k',hk',hyx⟩:∃k',(k'=if k<i then k else k+(j-i))/\xs[k']?=some y:=by
   refine⟨_,rfl,?_⟩;rw[List.getElem?_append,aq]at hy;by_cases h:k<i
   ·rw[if_pos (by omega),List.getElem?_take,if_pos h]at hy
    rw[if_pos h];exact hy
   ·rw[if_neg (by omega),List.getElem?_drop]at hy
    rw[if_neg h];rw[show j+(k-min i xs.length)=k+(j-i) by omega]at hy;exact hy
  obtain⟨us,r1,r2⟩:=he k' y hyx;refine⟨us,r1.frame tr.cell,fun q u hq =>?_⟩;have hql:q<t'.size:=by have:=bG hq;rw[r1.length]at this;exact this
  have hm:(k+1)*t'.size<=(i+(xs.length-j))*t'.size:=bc _ hk;rw[bu,Nat.one_mul]at hm;rw[k7 _ (by omega)];have:=r2 q u hq;by_cases h:k<i
  ·rw[if_pos h]at hk'
   subst hk';have hm2:(k'+1)*t'.size<=i*t'.size:=bc _ h;rw[bu,Nat.one_mul]at hm2;rw[if_pos (by omega)];exact this
  ·rw[if_neg h]at hk'
   have hm2:i*t'.size<=k*t'.size:=bc _ (by omega);rw[if_neg (by omega)];rw[hk',bu]at this;rw[show k*t'.size+q+(j-i)*t'.size=k*t'.size+(j-i)*t'.size+q by omega];exact this⟩)
 exact⟨_,_,_,_,rfl,hs,rfl,(fun hq=>by cases hq),gd,tr,⟨by simp[aA,fresh,bA],fun t xs hy=>by simp[aA,bU]⟩⟩
end
end Go.Vg

namespace Go.Mrl
open Go.Vg
def nn{n:Int}{k:Nat}(h0:0<=n)(h:n<((10^(k+1):Nat):Int)):(Lib.itoa n).length<=k+1:=by
 unfold Lib.itoa;rw[if_neg (by omega)];exact oA k n.toNat (by omega)
def Qs{n:Int}(h:ij (-2147483648) 2147483647 n):(Lib.itoa n).length<=11:=by
 have h1:=h.1;have h2:=h.2;by_cases hn:n<0
 ·rw[Pn hn,ab,bw]
  have:=nn (n:=-n) (k:=9) (by omega) (by omega);omega
 ·have:=nn (n:=n) (k:=9) (by omega) (by omega);omega
def Dz{α:Type}{f:α->aD}{m:Nat}:∀{l:List α},(∀x∈l,(f x).length<=m)->(l.flatMap f).length<=m*l.length
 |[],_=>by simp
 |a :: r,h=>by
  have h1:=h a (by simp);have h2:=Dz (l:=r) fun x hx=>h x (by simp[hx])
  rw[List.flatMap_cons,ab,ae,Nat.mul_add,Nat.mul_one];omega
def Ir{p:D aG}(h1:Nm p.1)(h2:ij 1 1000000 p.2.1)(h3:ij 0 255 p.2.2.1):(nh p).length<=21:=by
 have a:=h1.2.1;have b:=nn (n:=p.2.1) (k:=6) (by have:=h2.1;omega) (by have:=h2.2;omega);have c:=nn (n:=p.2.2.1) (k:=2) (by have:=h3.1;omega) (by have:=h3.2;omega);simp[nh];omega
def Is{p:D aR}(h1:ij 0 5 p.1)(h2:ij 0 39 p.2.1)(h3:ij (-2147483648) 2147483647 p.2.2.1):(ni p).length<=17:=by
 have a:=nn (n:=p.1) (k:=0) (by have:=h1.1;omega) (by have:=h1.2;omega);have b:=nn (n:=p.2.1) (k:=1) (by have:=h2.1;omega) (by have:=h2.2;omega);have c:=Qs h3;simp[ni];omega
def J9{e:D aC}(hf:bB e=0):(fS e).length<=752:=by
 have h:=lG hf;have a1:=h.nm.2.1;have a2:=nn (n:=(e.2.1.length:Int)) (k:=0) (by omega) (by have:=h.p6;omega);have a3:=nn (n:=(e.2.2.1.length:Int)) (k:=1) (by omega) (by have:=h.Cm;omega);have hh:(vh e).length<=13:=by simp[vh];omega
 have b:=Dz (f:=nh) (m:=21) (l:=e.2.1) fun x hx=>by
  obtain⟨j,hj,rfl⟩:=fN (t:=aG) hx;obtain⟨k1,k2,k3⟩:=h.parts j hj;exact Ir k1 k2 k3
 have c:=Dz (f:=ni) (m:=17) (l:=e.2.2.1) fun x hx=>by
  obtain⟨j,hj,rfl⟩:=fN (t:=aR) hx;obtain⟨k1,k2,k3⟩:=h.HW j hj;exact Is k1 k2 k3
 have d1:=h.p6;have d2:=h.Cm;unfold fS re jv jK;rw[cg,cg,ab,ab,ab,bw];omega
def vt:∀{l:List (D aC)},(∀e∈l,bB e=0)->(fK l).length<=752*l.length
 |[],_=>by simp[fK]
 |e :: r,h=>by
  have h1:=J9 (h e (by simp));have h2:=vt (l:=r) fun x hx=>h x (by simp[hx])
  have h3:fK (e :: r)=fS e++fK r:=rfl;rw[h3,ab,ae];omega
def E6{c:UInt8}:∀{l r:aD},c∉l->bt (l++c :: r) [c]=(l.length:Int)
 |[],r,_=>xk
 |b :: l,r,h=>by
  have hb:b≠c:=fun e=>h (by rw[e];simp)
  rw[bm,xj hb,E6 (l:=l) (r:=r) fun k=>h (List.mem_cons_of_mem _ k),ae];rw[if_neg (by simp)];omega
def Ka{c:UInt8}{l r:aD}(h:c∉l):dL c (l++[c]++r)=(l++[c]) :: dL c r:=by
 have hc:bp (l++[c]++r) [c]=bp r [c]+1:=by
  rw[bb,bb,ch,List.count_append,List.count_eq_zero_of_not_mem h];simp
 have hi:bt (l++[c]++r) [c]=(l.length:Int):=by rw[ch];exact E6 h
 unfold dL;rw[hc,ag,hi,if_neg (by simp)];have e1:((l.length:Int)).toNat+1=(l++[c]).length:=by simp
 have e2:((l.length:Int)).toNat+ [c].length=(l++[c]).length:=by simp
 rw[e2,List.drop_left,e1,List.take_left]
def NA(c:UInt8):dL c []=[[]]:=by
 unfold dL;rw[bb];rfl
def CB:∀{l:List (D aC)},(∀e∈l,bB e=0)->dL 10 (fK l)=l.map fS++[[]]
 |[],_=>NA 10
 |e :: r,h=>by
  have h3:fK (e :: r)=re e++[10]++fK r:=rfl;rw[h3,Ka (Nk (lG (h e (by simp)))),CB (l:=r) fun x hx=>h x (by simp[hx])];rfl
def Tg(e:D aC):fS e≠[]:=by unfold fS;simp
def CC{e:D aC}(h:bB e=0):gV (fS e)=(e,.nil):=by unfold gV;rw[Lh h rfl];rfl
def Th{l:List (D aC)}(h:∀e∈l,bB e=0):km (l.map fS++[[]])=l:=by
 unfold km;rw[br,bd.2 fun s hs=>by
  obtain⟨e,_,rfl⟩:=ao.1 hs;exact decide_eq_true (Tg e)]
 simp only[bx,List.filter_nil,ne_eq,not_true_eq_false,decide_false,Bool.false_eq_true,if_false,List.append_nil,List.map_map];have:l.map ((fun s=>(gV s).1) ∘ fS)=l.map id:=List.map_congr_left fun e he=>by simp only[Function.comp];rw[CC (h e he)];rfl
 rw[this,List.map_id]
def Ti{l:List (D aC)}(h:∀e∈l,bB e=0):¬Iq (l.map fS++[[]]):=by
 rintro⟨j,h1,h2,h3⟩;have hm:nth .str (l.map fS++[[]]) j∈l.map fS++[[]]:=dQ (t:=.str) h1;rcases bz.1 hm with hm|hm
 ·obtain⟨e,he,k⟩:=ao.1 hm
  rw[<-k,CC (h e he)]at h3;cases h3
 ·exact h2 (bf.1 hm)
def Qt(n:Int):vq n=n % 256:=by
 unfold vq;simp[au,IntKind.signed,IntKind.bits]
def sU{n:Nat}{m:Int}{k:Nat}(h:m=((n / 2^k:Nat):Int)):(UInt8.ofNat (Int.toNat (vq m))).toNat=n / 2^k % 256:=by
 rw[Qt,h,show((n / 2^k:Nat):Int) % 256=((n / 2^k % 256:Nat):Int) by omega,ai];simp[UInt8.toNat_ofNat']
def AZ(n k:Nat):((n:Nat):Int).fdiv (2^k)=((n / 2^k:Nat):Int):=by
 rw[Int.fdiv_eq_ediv_of_nonneg _ (Int.le_of_lt (Int.pow_pos (by decide)))];simp
def It{a b k:Nat}(h:a<2^k):a ||| b*2^k=a+b*2^k:=by
 have:=Nat.two_pow_add_eq_or_of_lt h b;rw[Nat.mul_comm,Nat.or_comm];omega
def E7{n:Nat}(h:n<2^32):iO (jX (n:Int))=(n:Int):=by
 have b0:(dS (jX (n:Int)) 0).toNat=n / 2^0 % 256:=sU (n:=n) (k:=0) (by simp);have b1:(dS (jX (n:Int)) 1).toNat=n / 2^8 % 256:=sU (AZ n 8);have b2:(dS (jX (n:Int)) 2).toNat=n / 2^16 % 256:=sU (AZ n 16);have b3:(dS (jX (n:Int)) 3).toNat=n / 2^24 % 256:=sU (AZ n 24);have l:∀k,n / 2^k % 256<2^8:=fun k=>Nat.mod_lt _ (by decide)
 unfold iO;rw[b0,b1,b2,b3,rv (l 8) (by decide),rv (l 16) (by decide),rv (l 24) (by decide)];have l0:=l 0;have l1:=l 8;have l2:=l 16;have l3:=l 24;generalize hb0:n / 2^0 % 256=x0 at*;generalize hb1:n / 2^8 % 256=x1 at*;generalize hb2:n / 2^16 % 256=x2 at*;generalize hb3:n / 2^24 % 256=x3 at*;rw[ru (by omega) (by omega),It (k:=8) (by omega),ru (by omega) (by omega),It (k:=16) (by omega),ru (by omega) (by omega),It (k:=24) (by omega)];congr 1;omega
structure pF (d:Dk):Prop where
 down:d.1.2.1=false
 mb:(d.1.1:Int)= -1
 len:112<=d.2.2.1.length
 sec:∀i,i<d.2.2.1.length->(nth .str d.2.2.1 i).length=64
 Tj:d.2.1.length=d.2.2.1.length
def Iu{s:aD}(h:s.length<=64):(eJ s).length=64:=by unfold eJ;simp;omega
def xJ{d:Dk}(g:pF d):stepOf d=(d,0):=by
 unfold stepOf;rw[if_neg (by rw[g.down];decide),if_neg (by rw[g.mb];decide)];have hf:=g.mb;have hd:=g.down;obtain⟨⟨f,dn,u⟩,rest⟩:=d;simp only at hf hd;subst hd;rw[if_neg (by show ¬0<f;omega)]
def rj{d:Dk}(g:pF d){a:Int}{s:aD}(h0:0<=a)(h1:a<d.2.2.1.length)(hs:s.length<=64) :
  (bK d a s).2=0/\(bK d a s).1.2.2.1=d.2.2.1.set a.toNat (eJ s)/\pF (bK d a s).1:=by
 have e:bK d a s=((d.1,d.2.1,d.2.2.1.set a.toNat (eJ s),d.2.2.2.1++[(a,eJ s,())],()),0):=by
  unfold bK;rw[if_neg (by omega),xJ g,if_pos rfl]
 rw[e];refine⟨rfl,rfl,g.down,g.mb,by rw[af];exact g.len,fun i hi =>?_,by rw[af];exact g.Tj⟩;show(nth .str (d.2.2.1.set a.toNat (eJ s)) i).length=64;have hi:i<(d.2.2.1.set a.toNat (eJ s)).length:=hi;rw[af]at hi;by_cases c:a.toNat=i
 ·subst c;rw[nE (t:=.str) hi];exact Iu hs
 ·rw[nD (t:=.str) c];exact g.sec i hi
def rk{d:Dk}(g:pF d):(bP d).2=0/\(bP d).1.2.2.1=d.2.2.1/\pF (bP d).1:=by
 have e:bP d=((d.1,d.2.2.1,d.2.2.1,[],()),0):=by
  unfold bP;rw[xJ g,if_pos rfl]
 rw[e];exact⟨rfl,rfl,g.down,g.mb,g.len,g.sec,rfl⟩
def Iv(bs:List Int):∀(pre:List Nat) {d:Dk} {s:Int},pF d->0<=s->s+(pre.length:Int)<=d.2.2.1.length->
  (mr bs d s pre).2=0/\pF (mr bs d s pre).1/\(mr bs d s pre).1.2.2.1.length=d.2.2.1.length/\
  (∀j,j<pre.length->nth .str (mr bs d s pre).1.2.2.1 (s.toNat+j)=eJ (bytesOf (eH (t:=.int .u8) bs 64 (pre.getD j 0))))/\
  (∀i,i<s.toNat\/s.toNat+pre.length<=i->nth .str (mr bs d s pre).1.2.2.1 i=nth .str d.2.2.1 i)
 |[],d,s,g,h0,h1=>⟨rfl,g,rfl,fun j hj=>absurd hj (cj _),fun i _=>rfl⟩
 |p :: r,d,s,g,h0,h1=>by
  have hc:(bytesOf (eH (t:=.int .u8) bs 64 p)).length<=64:=by rw[bytesOf,az,rf];exact Nat.min_le_left _ _
  rw[ae]at h1;obtain⟨w1,w2,w3⟩:=rj g (a:=s) h0 (by omega) hc;have hl:(bK d s (bytesOf (eH (t:=.int .u8) bs 64 p))).1.2.2.1.length=d.2.2.1.length:=by rw[w2,af]
  obtain⟨k1,k2,k3,k4,k5⟩:=Iv bs r (s:=s+1) w3 (by omega) (by rw[hl];omega);have e:mr bs d s (p :: r)=mr bs (bK d s (bytesOf (eH (t:=.int .u8) bs 64 p))).1 (s+1) r:=by
   rw[mr,if_pos w1]
  rw[e];have hs1:(s+1).toNat=s.toNat+1:=by omega
  refine⟨k1,k2,k3.trans hl,fun j hj =>?_,fun i hi =>?_⟩
  ·cases j with
   |zero=>
    rw[Nat.add_zero,k5 s.toNat (.inl (by omega)),w2,nE (t:=.str) (by omega)];rfl
   |succ j=>
    have:=k4 j (by simpa using hj);rw[hs1]at this;rw[show s.toNat+(j+1)=s.toNat+1+j by omega,this];rfl
  ·rw[ae]at hi
   rw[k5 i (by omega),w2,nD (t:=.str) (by omega)]
def Ln{d:Dk}(hs:∀i,i<d.2.2.1.length->(nth .str d.2.2.1 i).length=64){b:Int}(hb:0<=b):∀(n:Nat),b+(n:Int)<=d.2.2.1.length->∀i,i<64*n->(jn d b n)[i]?=(nth .str d.2.2.1 (b.toNat+i / 64))[i % 64]?
 |0,_,i,hi=>by omega
 |n+1,h,i,hi=>by
  have hl:=kG hs hb n (by omega);rw[Nx];by_cases c:i<64*n
  ·rw[List.getElem?_append_left (by rw[hl];exact c)]
   exact Ln hs hb n (by omega) i c
  ·rw[List.getElem?_append_right (by rw[hl];omega),hl]
   have e1:i / 64=n:=by omega
   have e2:i-64*n=i % 64:=by omega
   rw[e1,e2,show xI d (b+(n:Int))=nth .str d.2.2.1 (b.toNat+n)from congrArg (nth .str d.2.2.1) (by omega)]
def Qu(t:aD)(j r:Nat)(hr:r<64):(bytesOf (eH (t:=.int .u8) (bJ t) 64 j))[r]?=t[j*64+r]?:=by
 have e:bytesOf (eH (t:=.int .u8) (bJ t) 64 j)=(t.drop (j*64)).take 64:=by
  have h:∀l:aD,bytesOf (bJ l)=l:=uX
  have h2:eH (t:=.int .u8) (bJ t) 64 j=bJ ((t.drop (j*64)).take 64):=by simp[eH,bJ,List.map_take,List.map_drop]
  rw[h2,h]
 rw[e,List.getElem?_take,if_pos hr,List.getElem?_drop]
def Vj{d:Dk}(hs:∀i,i<d.2.2.1.length->(nth .str d.2.2.1 i).length=64){b:Int}(hb:0<=b)(hb2:b+55<=d.2.2.1.length){t:aD}(ht:t.length<=3520)
  (hw:∀j,j<fM t.length 64->nth .str d.2.2.1 (b.toNat+j)=eJ (bytesOf (eH (t:=.int .u8) (bJ t) 64 j))):(jn d b 55).take t.length=t:=by
 apply ck;intro i;by_cases c:i<t.length
 ·rw[List.getElem?_take,if_pos c,Ln hs hb 55 hb2 i (by omega)]
  have hj:i / 64<fM t.length 64:=by unfold fM;omega
  rw[hw _ hj];unfold eJ;have hg:=Qu t (i / 64) (i % 64) (Nat.mod_lt _ (by decide));have hi:i / 64*64+i % 64=i:=by omega
  rw[hi]at hg;have hlt:i % 64<(bytesOf (eH (t:=.int .u8) (bJ t) 64 (i / 64))).length:=by
   apply cm;intro hn;rw[List.getElem?_eq_none (by omega)]at hg;rw[List.getElem?_eq_getElem c]at hg;cases hg
  rw[List.getElem?_append_left hlt,hg]
 ·rw[List.getElem?_take,if_neg c,List.getElem?_eq_none (by omega)]
def Qv(a b:Int)(s:aD):ah 1 (ad 5 (fI a b++s))=jX a/\ah 5 (ad 9 (fI a b++s))=jX b/\(dS (fI a b++s) 0).toNat=83:=by
 refine⟨rfl,rfl,rfl⟩
def Iw{d:Dk}{p:Nat}{a b:Nat}(h:nth .str d.2.2.1 p=eJ (fI a b))(ha:a<2^32)(hb:b<2^32) :
  ((dS (nth .str d.2.2.1 p) 0).toNat:Int)=83/\pI d p=(a:Int)/\qI d p=(b:Int):=by
 obtain⟨h1,h2,h3⟩:=Qv a b (b4 (64-(fI a b).length) 0);rw[p4,ry,h];unfold eJ;exact⟨by rw[h3];rfl,by rw[h1];exact E7 ha,by rw[h2];exact E7 hb⟩
structure jj (d:Dk) (r:Nat) (l:List (D aC)):Prop where
 gJ:pF d
 quiet:d.2.2.2.1=[]
 tu:∀e∈l,bB e=0
 lO:l.length<=3
 r2:2<=r
 rM:r<=1000000000
 head:nth .str d.2.2.1 (r % 2)=eJ (fI r (fK l).length)
 other:((dS (nth .str d.2.2.1 (1-r % 2)) 0).toNat:Int)≠83\/pI d (1-r % 2)<(r:Int)
 text:(jn d (2+((r % 2:Nat):Int)*55) 55).take (fK l).length=fK l
def xK:∀{l:List (D aC)},(∀e∈l,bB e=0)->lI l=0
 |[],_=>rfl
 |e :: r,h=>by unfold lI;rw[if_neg (not_not_intro (h e (by simp)))];exact xK fun x hx=>h x (by simp[hx])
def jj.small{d:Dk}{r:Nat}{l:List (D aC)}(h:jj d r l):(fK l).length<=2256:=by
 have:=vt h.tu;have:=h.lO;omega
def jj.Xf{d:Dk}{r:Nat}{l:List (D aC)}(h:jj d r l):eI d 2=((r:Int),((fK l).length:Int)):=by
 have hr:=h.r2;have hM:=h.rM;have hs:=h.small;obtain⟨k1,k2,k3⟩:=Iw h.head (by omega) (by omega);have ho:=h.other;rcases Nat.mod_two_eq_zero_or_one r with e|e
 ·rw[e]at k1 k2 k3 ho
  have h1:eI d 1=((r:Int),((fK l).length:Int)):=by
   rw[uh k1 (by rw[Cz,k2];show(0:Int)<r;omega) (by rw[k3];omega),k2,k3]
  rw[yB (i:=1) fun hh =>?_,h1];rcases ho with ho|ho
  ·exact ho hh.1
  ·have h2:=hh.2.1
   rw[h1]at h2;have h2:(r:Int)<pI d 1:=h2;have ho:pI d 1<(r:Int):=ho;omega
 ·rw[e]at k1 k2 k3 ho
  have h1:(eI d 1).1<(r:Int):=by
   by_cases c:((dS (nth .str d.2.2.1 0) 0).toNat:Int)=83/\(eI d 0).1<pI d 0/\qI d 0<=3520
   ·rw[uh c.1 c.2.1 c.2.2]
    rcases ho with ho|ho
    ·exact absurd c.1 ho
    ·exact ho
   ·rw[yB c,Cz];show(0:Int)<r;omega
  rw[uh (i:=1) k1 (by rw[k2];exact h1) (by rw[k3];omega),k2,k3]
def jj.lines{d:Dk}{r:Nat}{l:List (D aC)}(h:jj d r l):dJ d=l.map fS++[[]]:=by
 rw[gL,kE,h.Xf];have e:((r:Int)).tmod 2=((r % 2:Nat):Int):=by rw[ay (by omega)];omega
 simp only[e,ai];rw[h.text,CB h.tu]
def jj.opens{d:Dk}{r:Nat}{l:List (D aC)}(h:jj d r l):dP d=(((r:Int),l),0):=by
 have h5:=h.Xf;rw[Lm h.gJ.down (by have:=h.gJ.len;omega) (by rw[h5];have:=h.r2;show ¬(r:Int)=0;omega) (by rw[h.lines];exact Ti h.tu),h.lines,Th h.tu,h5]
def NB{l:List (D aC)}(h:∀e∈l,bB e=0):(dN l).1=fK l:=by unfold dN;rw[if_neg (not_not_intro (xK h))]
def zZ{d:Dk}(g:pF d):(bP d).1.2.2.2.1=[]:=by
 have e:bP d=((d.1,d.2.2.1,d.2.2.1,[],()),0):=by unfold bP;rw[xJ g,if_pos rfl]
 rw[e]
def Vk{d:Dk}{r:Nat}{l l':List (D aC)}(h:jj d r l)(hf:∀e∈l',bB e=0)(hn:l'.length<=3)(hr:r+1<=1000000000) :
  (eK d r l').2=0/\jj (eK d r l').1 (r+1) l':=by
 have hb:=xK hf;have ht:=NB hf;have hs:(fK l').length<=2256:=by have:=vt hf;omega
 have hlen:=h.gJ.len;obtain⟨p,hp,hpd⟩:∃p:Nat,p<=1/\p=(r+1) % 2:=⟨_,by omega,rfl⟩
 have hm:((r:Int)+1).tmod 2=(p:Int):=by rw[ay (by omega)];omega
 have hq:r % 2=1-p:=by omega
 have hN:(il l').length=fM (fK l').length 64:=by unfold il;rw[bo,ht,zD]
 have hN2:fM (fK l').length 64<=36:=by unfold fM;omega
 obtain⟨a1,a2,a3,a4,a5⟩:=Iv (bJ (fK l')) (il l') (s:=2+(p:Int)*55) h.gJ (by omega) (by rw[hN];omega);have ew:ik l' r d (il l')=mr (bJ (fK l')) d (2+(p:Int)*55) (il l'):=by unfold ik;rw[ht,hm]
 rw[<-ew]at a1 a2 a3 a4 a5;obtain⟨b1,b2,b3⟩:=rk a2;have ef:Cw l' r d=bP (ik l' r d (il l')).1:=rfl;rw[<-ef]at b1 b2 b3;obtain⟨c1,c2,c3⟩:=rj b3 (a:=(p:Int)) (s:=fI ((r:Int)+1) (fK l').length) (by omega) (by rw[b2,a3];omega) (by rw[EZ];decide);have eh:vU l' r d=bK (Cw l' r d).1 (p:Int) (fI ((r:Int)+1) (fK l').length):=by unfold vU;rw[ht,hm]
 rw[<-eh]at c1 c2 c3;obtain⟨e1,e2,e3⟩:=rk c3;have ek:eK d r l'=bP (vU l' r d).1:=by
  unfold eK;rw[if_neg (not_not_intro hb),if_neg (not_not_intro a1),if_neg (not_not_intro b1),if_neg (not_not_intro c1)]
 rw[ek];have hsec:(bP (vU l' r d).1).1.2.2.1=(ik l' r d (il l')).1.2.2.1.set p (eJ (fI ((r:Int)+1) (fK l').length)):=by
  rw[e2,c2,b2,ai]
 have hpl:p<(ik l' r d (il l')).1.2.2.1.length:=by rw[a3];omega
 have htn:(2+(p:Int)*55).toNat=2+p*55:=by omega
 rw[htn]at a4 a5;refine⟨e1,{gJ:=e3,quiet:=zZ c3,tu:=hf,lO:=hn,r2:=by have:=h.r2;omega,rM:=hr,head:=?_,other:=?_,text:=?_}⟩
 ·rw[<-hpd,hsec,nE (t:=.str) hpl];rfl
 ·rw[<-hpd]
  have hk:nth .str (bP (vU l' r d).1).1.2.2.1 (1-p)=nth .str d.2.2.1 (1-p):=by
   rw[hsec,nD (t:=.str) (by omega),a5 _ (.inl (by omega))]
  have hh:=h.head;rw[hq]at hh;have hM:=h.rM;have hsm:=h.small;obtain⟨k1,k2,k3⟩:=Iw hh (by omega) (by omega);right;rw[p4,hk,<-p4,k2];omega
 ·rw[<-hpd]
  refine Vj (b:=2+(p:Int)*55) (fun i hi=>e3.sec i hi) (by omega) (by rw[hsec,af,a3];omega) (by omega) fun j hj =>?_
  rw[htn,hsec,nD (t:=.str) (by omega),a4 j (by rw[hN];exact hj)];unfold il;rw[ht,zD,List.getD_eq_getElem?_getD,List.getElem?_range hj];rfl
def r8{n:Int}(h:112<=n):pF (qQ n) where
 down:=rfl
 mb:=rfl
 len:=by show 112<=(b4 n.toNat (eJ [])).length;rw[List.length_replicate];omega
 sec:=fun i hi=>by
  have:i<(b4 n.toNat (eJ [])).length:=hi;rw[show nth .str (qQ n).2.2.1 i=eJ []from List.eq_of_mem_replicate (dQ (t:=.str) this)];exact Iu (by decide)
 Tj:=rfl
def qK{d:Dk}(g:pF d):(iP d).2=0/\jj (iP d).1 2 []:=by
 rw[me];have hlen:=g.len;obtain⟨a1,a2,a3⟩:=rj g (a:=1) (s:=[]) (by omega) (by omega) (by decide);obtain⟨b1,b2,b3⟩:=rk a3;obtain⟨c1,c2,c3⟩:=rj b3 (a:=0) (s:=fI 2 0) (by omega) (by rw[b2,a2,af];omega) (by rw[EZ];decide);obtain⟨e1,e2,e3⟩:=rk c3;have ek:gD d=bP (bK (bP (bK d 1 []).1).1 0 (fI 2 0)).1:=by
  unfold gD;rw[if_neg (by omega),if_neg (not_not_intro a1),if_neg (not_not_intro b1),if_neg (not_not_intro c1)]
 rw[ek];have hsec:(bP (bK (bP (bK d 1 []).1).1 0 (fI 2 0)).1).1.2.2.1=(d.2.2.1.set 1 (eJ [])).set 0 (eJ (fI 2 0)):=by
  rw[e2,c2,b2,a2];rfl
 refine⟨e1,{gJ:=e3,quiet:=zZ c3,tu:=fun e he=>absurd he (by simp),lO:=by simp,r2:=a8 _,rM:=by decide,head:=?_,other:=.inl ?_,text:=rfl}⟩
 ·rw[hsec];exact nE (t:=.str) (by rw[af];omega)
 ·rw[hsec]
  show((dS (nth .str ((d.2.2.1.set 1 (eJ [])).set 0 (eJ (fI 2 0))) 1) 0).toNat:Int)≠83;rw[nD (t:=.str) (by omega),nE (t:=.str) (by omega)];decide
structure eY (x:Sh) (m:List (D aC)) (k:Nat):Prop where
 list:x.1.2.1=m
 names:(m.map (·.1)).Nodup
 DA:∃r:Nat,(x.1.1:Int)=(r:Int)/\r<=2+k/\jj x.2 r m
def vu{x:Sh}{m l:List (D aC)}{k:Nat}(h:eY x m k)(hk:k<=1000)(hf:∀e∈l,bB e=0)(hl:l.length<=3)(hn:(l.map (·.1)).Nodup):(qn x l).2=0/\eY (qn x l).1 l (k+1):=by
 obtain⟨r,h1,h2,h3⟩:=h.DA;obtain⟨k1,k2⟩:=Vk h3 hf hl (by omega);unfold qn;rw[show(x.1.1:Int)=(r:Int)from h1,if_pos k1];exact⟨k1,rfl,hn,r+1,rfl,by omega,k2⟩
def eY.next{x:Sh}{m:List (D aC)}{k:Nat}(h:eY x m k):eY x m (k+1):=⟨h.list,h.names,let⟨r,h1,h2,h3⟩:=h.DA;⟨r,h1,by omega,h3⟩⟩
def Qw{m:List (D aC)}{e:D aC}{i:Nat}(hi:i<m.length)(he:(nth aC m i).1=e.1):(m.set i e).map (·.1)=m.map (·.1):=by
 apply ck;intro j;rw[List.getElem?_map,List.getElem?_map,List.getElem?_set];by_cases c:i=j
 ·subst c
  rw[if_pos rfl,if_pos hi];have:=lu (t:=aC) hi;rw[this];simp[he]
 ·rw[if_neg c]
def Tk{p:Nat->Prop}(h:∃i,p i):∃i,(∀j,j<i->¬p j)/\p i:=by
 obtain⟨i,hi⟩:=h;induction i using Nat.strongRecOn with
 |ind i ih=>
  by_cases c:∃j,j<i/\p j
  ·obtain⟨j,h1,h2⟩:=c;exact ih j h1 h2
  ·exact⟨i,fun j hj hp=>c ⟨j,hj,hp⟩,hi⟩
def oX(m:List (D aC))(s:aD):(∃i,i<m.length/\(∀j,j<i->(nth aC m j).1≠s)/\(nth aC m i).1=s/\eC m s=(i:Int))\/((∀j,j<m.length->(nth aC m j).1≠s)/\eC m s= -1):=by
 by_cases h:∃i,i<m.length/\(nth aC m i).1=s
 ·left
  obtain⟨i,h0,h1,h2⟩:=Tk h;exact⟨i,h1,fun j hj e=>h0 j hj ⟨by omega,e⟩,h2,AW h1 (fun j hj e=>h0 j hj ⟨by omega,e⟩) h2⟩
 ·right
  have h':∀j,j<m.length->(nth aC m j).1≠s:=fun j hj e=>h ⟨j,hj,e⟩
  exact⟨h',rh h'⟩
def Tl{m:List (D aC)}{e:D aC}{i:Nat}(h:∀x∈m,bB x=0)(he:bB e=0):∀x∈m.set i e,bB x=0:=fun x hx=>by
 rcases cn hx with h1|h1
 ·exact h x h1
 ·exact h1▸he
def Ix{m:List (D aC)}{s:aD}(h:∀j,j<m.length->(nth aC m j).1≠s):s∉m.map (·.1):=fun hm=>by
 obtain⟨e,he,rfl⟩:=ao.1 hm;obtain⟨j,hj,rfl⟩:=fN (t:=aC) he;exact h j hj rfl
def Iy{x:Sh}{m:List (D aC)}{k:Nat}(h:eY x m k)(hk:k<=1000)(e:D aC):(ky x e).2=(oN m e).2/\eY (ky x e).1 (oN m e).1 (k+1):=by
 obtain⟨r,h1,h2,h3⟩:=h.DA;have hl:=h.list;by_cases hf:bB e=0
 ·rcases oX m e.1 with⟨i,i1,i2,i3,i4⟩|⟨j1,j2⟩
  ·rw[Ll hf (by rw[hl,i4];omega),hl,i4,S9 (by omega) i1 i2 i3,ai]
   exact vu h hk (Tl h3.tu hf) (by rw[af];exact h3.lO) (by rw[Qw i1 i3];exact h.names)
  ·by_cases c:(m.length:Int)=3
   ·rw[Ip hf (by rw[hl,j2];omega) (by rw[hl];exact c),Ql (by omega) j1 c]
    exact⟨rfl,h.next⟩
   ·rw[Dx hf (by rw[hl,j2];omega) (by rw[hl];exact c),hl,Ta (by omega) j1 c]
    refine vu h hk (fun y hy =>?_) (by rw[ab,bw];have:=h3.lO;omega) ?_
    ·rcases bz.1 hy with hy|hy
     ·exact h3.tu y hy
     ·rw[bf.1 hy];exact hf
    ·rw[List.map_append,List.nodup_append]
     refine⟨h.names,by simp,fun a ha b hb hab =>?_⟩;rw[List.map_singleton,bf]at hb;exact Ix j1 (by rw[<-hb,<-hab];exact ha)
 ·have:=vQ e
  rw[E3 hf,Nw (by omega)];exact⟨rfl,h.next⟩
def CE{m:List (D aC)}{s:aD}(h:s∉m.map (·.1)):nL m s=m:=by
 unfold nL;exact bd.2 fun e he=>decide_eq_true fun hh=>h (ao.2 ⟨e,he,hh⟩)
def vw:∀{m:List (D aC)} {s:aD} {i:Nat},(m.map (·.1)).Nodup->i<m.length->(nth aC m i).1=s->nL m s=m.eraseIdx i
 |[],_,_,_,h,_=>absurd h (cj _)
 |e :: r,s,0,hn,_,he=>by
  have he:e.1=s:=he;rw[a7,b5]at hn;have h2:=CE (m:=r) (s:=s) (by rw[<-he];exact hn.1);unfold nL at*;rw[bx,if_neg (by simp[he]),h2];rfl
 |e :: r,s,i+1,hn,hi,he=>by
  have he:(nth aC r i).1=s:=he;rw[a7,b5]at hn;have hi:i<r.length:=by simpa using hi
  have h2:=vw (m:=r) (s:=s) (i:=i) hn.2 hi he;have hne:e.1≠s:=fun hh=>hn.1 (by rw[hh,<-he];exact ao.2 ⟨_,dQ (t:=aC) hi,rfl⟩)
  unfold nL at*;rw[bx,if_pos (decide_eq_true hne),h2];rfl
def E8{x:Sh}{m:List (D aC)}{k:Nat}(h:eY x m k)(hk:k<=1000)(s:aD):(dH x s).2=(jw m s).2/\eY (dH x s).1 (jw m s).1 (k+1):=by
 obtain⟨r,h1,h2,h3⟩:=h.DA;have hl:=h.list;rcases oX m s with⟨i,i1,i2,i3,i4⟩|⟨j1,j2⟩
 ·have e:=vw h.names i1 i3
  have el:(m.eraseIdx i).length=m.length-1:=by rw[b6,if_pos i1]
  have ed:jw m s=(m.eraseIdx i,0):=by unfold jw;rw[if_neg (by rw[e,el];omega),e]
  unfold dH;rw[if_pos (by rw[hl,i4];omega),hl,i4,ed,ai];exact vu h hk (fun y hy=>h3.tu y (List.mem_of_mem_eraseIdx hy)) (by rw[el];have:=h3.lO;omega) (h.names.sublist ((List.eraseIdx_sublist m i).map _))
 ·have e:=CE (Ix j1)
  have ed:jw m s=(m,5):=by unfold jw;rw[if_pos (by rw[e]),]
  unfold dH;rw[if_neg (by rw[hl,j2];omega),ed];exact⟨rfl,h.next⟩
def jk:Sh:=((2,[],()),(iP (qQ 112)).1)
def jE:eY jk [] 0:=⟨rfl,List.nodup_nil,2,rfl,a8 _,(qK (r8 (aw _))).2⟩
def eY.at{x:Sh}{m:List (D aC)}{k:Nat}(h:eY x m k):∃r:Nat,x.1=((r:Int),m,())/\r<=2+k/\jj x.2 r m:=by
 obtain⟨r,h1,h2,h3⟩:=h.DA;exact⟨r,aj h1 (aj h.list rfl),h2,h3⟩
def eY.opens{x:Sh}{m:List (D aC)}{k:Nat}(h:eY x m k):dP x.2=((x.1.1,m),0):=by
 obtain⟨r,h1,h2,h3⟩:=h.at;rw[h3.opens,h1]
def eY.DB{x:Sh}{m:List (D aC)}{k:Nat}(h:eY x m k):(dP x.2).2=0:=by rw[h.opens]
def eY.again{x:Sh}{m:List (D aC)}{k:Nat}(h:eY x m k):(((dP x.2).1.1,(dP x.2).1.2,()):Int×List (D aC)×Unit)=x.1:=by
 rw[h.opens];exact aj rfl (aj h.list.symm rfl)
def jj.vy{d:Dk}{r:Nat}{l:List (D aC)}(h:jj d r l):dA d 1000000:=⟨by have:=h.gJ.mb;omega,by rw[h.quiet];exact Nat.zero_le _,h.gJ.Tj⟩
def eY.vy{x:Sh}{m:List (D aC)}{k:Nat}(h:eY x m k):dA x.2 1000000:=let⟨_,_,_,h3⟩:=h.at;h3.vy
def eY.sec{x:Sh}{m:List (D aC)}{k:Nat}(h:eY x m k):∀i,i<x.2.2.2.1.length->(nth .str x.2.2.2.1 i).length=64:=let⟨_,_,_,h3⟩:=h.at;h3.gJ.sec
def eY.lO{x:Sh}{m:List (D aC)}{k:Nat}(h:eY x m k):x.1.2.1.length<=3:=by rw[h.list];let⟨_,_,_,h3⟩:=h.at;exact h3.lO
def eY.round{x:Sh}{m:List (D aC)}{k:Nat}(h:eY x m k):0<=(x.1.1:Int)/\(x.1.1:Int)<=2+k:=by
 obtain⟨r,h1,h2,_⟩:=h.DA;omega
def eY.Xm{x:Sh}{m:List (D aC)}{k:Nat}(h:eY x m k)(hk:k<=1000):x.1.2.1.length<=100/\0<=(x.1.1:Int)/\(x.1.1:Int)<=1000000000/\dA x.2 1000000:=
 ⟨ak h.lO (by decide),h.round.1,by have:=h.round.2;omega,h.vy⟩
def eY.DC{x:Sh}{m:List (D aC)}{k:Nat}(h:eY x m k)(hk:k<=1000):x.1.2.1.length<=99/\0<=(x.1.1:Int)/\(x.1.1:Int)<=1000000000/\dA x.2 1000000:=
 ⟨ak h.lO (by decide),h.round.1,by have:=h.round.2;omega,h.vy⟩
def eY.self{x:Sh}{m:List (D aC)}{k:Nat}(h:eY x m k):eY x x.1.2.1 k:=by rw[h.list];exact h
def eY.len{x:Sh}{m:List (D aC)}{k:Nat}(h:eY x m k):x.1.2.1.length<=1000000:=ak h.lO (by decide)
def E9{b:List Int}{i n:Int}{t:D bC}(h:(kq b i t n).2.isNil=true):(-2147483648:Int)<=(kq b i t n).1/\(kq b i t n).1<=(2147483647:Int):=by
 unfold kq at h ⊢;split
 ·rename_i hk
  rw[if_pos hk]at h;split
  ·exact⟨by decide,by decide⟩
  ·rename_i h1
   exact⟨by show(-2147483648:Int)<=n-(n7 b i.toNat+t.1);omega,by show n-(n7 b i.toNat+t.1)<=(2147483647:Int);omega⟩
 ·split
  ·exact⟨by decide,by decide⟩
  ·rename_i h1
   exact⟨by show(-2147483648:Int)<=n;omega,by show n<=(2147483647:Int);omega⟩
def Tm{l:List (D aB)}{b:List Int}{i:Int}{t:D bC}(h:(gS l b i t).2.isNil=true):(-2147483648:Int)<=(gS l b i t).1/\(gS l b i t).1<=(2147483647:Int):=by
 unfold gS at h ⊢;split
 ·rename_i hk;rw[if_pos hk]at h;exact E9 h
 ·rename_i hk
  rw[if_neg hk]at h;split
  ·rename_i h1;rw[if_pos h1]at h;exact E9 h
  ·exact⟨show(-2147483648:Int)<=0 by decide,show(0:Int)<=2147483647 by decide⟩
def Iz{l:List (D aB)}{b:List Int}:∀{os:List (D aB)} {i:Nat},(∀k,k<os.length->(nth aB os k).2.2.2.1.length<=6)->(qS l b os i).length<=6*os.length
 |[],i,_=>by simp[qS]
 |o :: r,i,h=>by
  have h0:o.2.2.2.1.length<=6:=h 0 (by simp);have hr:=Iz (l:=l) (b:=b) (os:=r) (i:=i+1) fun k hk=>h (k+1) (by simp;omega)
  have hl:(AQ l b i o.2.2.2.1).length=o.2.2.2.1.length:=by simp[AQ]
  show(AQ l b i o.2.2.2.1++qS l b r (i+1)).length<=6*(r.length+1);rw[ab];omega
def Fa(s:List Int):∀k,iZ s k % 16=0
 |0=>rfl
 |k+1=>by
  have h:=Fa s k;show(iZ s k+cL (nth (.int .i64) s k)) % 16=0;unfold cL;omega
def ki.base{rd:Rd}{root:aD}{ns:List aD}{os:List (D aB)}{bs:List Int}{ps:List Pt}(h:ki rd root ns os bs ps){i:Nat}(hi:i<os.length) :
  (0:Int)<=nth (.int .i64) bs i/\nth (.int .i64) bs i<=(255:Int)/\nth (.int .i64) bs i % (16:Int)=0:=by
 obtain⟨h1,h2,h3⟩:=h.sum;have hs:∀j,j<(bZ os).length->1<=(nth (.int .i64) (bZ os) j:Int)/\(nth (.int .i64) (bZ os) j:Int)<=40:=by
  intro k hk;rw[pC]at hk;rw[Ce hk];have:=h1 k hk;exact⟨b7.2 this.1,b7.2 this.2⟩
 have hm:=MT hs (os.length-(i+1)) (i+1) (by rw[pC];omega);rw[show i+1+(os.length-(i+1))=os.length by omega]at hm;have e:iZ (bZ os) (i+1)=iZ (bZ os) i+cL (nth (.int .i64) (bZ os) i):=rfl;have hr:=(JZ (n:=nth (.int .i64) (bZ os) i)).1;have hp:=(hs i (by rw[pC];exact hi)).1;have hb:=h.bi i (by rw[h.bl];exact hi);refine⟨hb.1,?_,by rw[h3 i hi];exact Fa _ _⟩;rw[h3 i hi];have h2:iZ (bZ os) os.length<=256:=h2;have hr:(nth (.int .i64) (bZ os) i:Int)<=cL (nth (.int .i64) (bZ os) i):=hr;have hp:(1:Int)<=nth (.int .i64) (bZ os) i:=hp;have key:∀b c d s:Int,b=c+d->s<=d->1<=s->b<=256->c<=255:=by intros;omega
 exact key _ _ _ _ e hr hp (bg hm h2)
def NC{x:cN}(g:gG x){root:aD}{ns:List aD}{os:List (D aB)}{bs:List Int}{ps:List Pt}(h:ki (aK x) root ns os bs ps):bB (root,cB (aK x) ns bs ns.length,ps,())=0:=by
 have hrd:∀j,j<ns.length->(aK x (nth .str ns j)).2.2=0:=fun j hj=>(kg g.ok (h.sc.xv j hj).1).1
 have hl:=h.sc.len;have hle:=h.sc.le;have hpos:=h.sc.pos;have hroot:aO root=0:=by
  have:=(g.read (hrd 0 hpos)).1;rw[h.sc.head]at this;exact this
 have hps:ps.length<=36:=by
  rw[h.pt];have:=Iz (l:=os) (b:=bs) (os:=os) (i:=0) fun k hk=>(h.sc.obj g.ok hk).t6
  omega
 refine EN (Int.le_of_eq hroot) (iJ ?_ ?_ ?_) (fun j hj =>?_) (fun j hj =>?_)
 ·show(1:Int)<=((cB (aK x) ns bs ns.length).length:Int);rw[eX];omega
 ·show((cB (aK x) ns bs ns.length).length:Int)<=6;rw[eX];omega
 ·show(ps.length:Int)<=36;omega
 ·have hj:j<ns.length:=by rw[<-eX (aK x) ns bs ns.length];exact hj
  show eG (nth aG (cB (aK x) ns bs ns.length) j)=0;rw[ju hj];obtain⟨r1,_,r3,r4⟩:=g.read (hrd j hj);obtain⟨b1,b2,b3⟩:=h.base (i:=j) (by omega);have hm:=g.st.pre.2.2;exact HU (Int.le_of_eq r1) r3 (bg r4 hm) b1 b2 b3
 ·have hj:j<ps.length:=hj
  show eN (cB (aK x) ns bs ns.length).length (nth aR ps j)=0;rw[eX];have hp:=h.Xe j hj;have hmem:nth aR ps j∈qS os bs os 0:=by rw[<-h.pt];exact dQ (t:=aR) hj
  obtain⟨k,t,hk,ht,e⟩:=AR hmem;rw[Nat.zero_add]at e;have hw:=Tm (h.one k hk t ht);have h40:=(h.sc.obj g.ok hk).Up;have h2:=hp.2.2.2;have h1:=hp.2.1;rw[nJ]at h1;have ek:(nth aR ps j).1=(k:Int):=by rw[e]
  rw[ek,ai,vf hk]at h2;refine Ck hp.1 (by rw[ek];omega) hp.2.2.1 (Int.le_of_lt_add_one (show _<(39:Int)+1 from Int.lt_of_lt_of_le h2 (b7.2 h40))) ?_ ?_
  ·rw[e];exact hw.1
  ·rw[e];exact hw.2
def Fb{x:cN}(g:gG x){root:aD}(h1:(aI (dR (aK x) root).2).isNil=true) :
  (hU (aK x) root).2=0/\kB (aK x) (dR (aK x) root).1=hU (aK x) root/\fL (aK x) (dR (aK x) root).1=true/\bB (dR (aK x) root).1=0:=by
 obtain⟨ns,os,bs,ps,e,hr,em⟩:=ET g.ok h1;have hf:=hr.fresh g.ok;have hu:=hr.use g.ok (rd':=aK x) (fun _ _=>rfl) hf;have hl:=U6 e hr;rw[em];exact⟨by rw[hl],hu.trans hl.symm,hf,NC g hr⟩
def mu(f:cN)(e:D aC):Prop:=∃f0:cN,gG f0/\f0.1.1<=f.1.1/\dR (aK f0) e.1=(e,0)/\∀k,(aK f k).2.2=0->(aK f k).2.1<=f0.1.1->aK f k=aK f0 k
def ND(f:cN)(s t k:aD):aK (cK f s t).1 k=aK f k\/(aK (cK f s t).1 k).2.1=f.1.1+1:=by
 cases he:(aI (cK f s t).2).isNil with
 |false=>left;rw[Pk he]
 |true=>
  by_cases e:k=s
  ·right;rw[e,Pj he]
  ·left;exact ME e
def mu.write{f:cN}{e:D aC}(h:mu f e)(g:gG f)(s t:aD):mu (cK f s t).1 e:=by
 obtain⟨f0,h1,h2,h3,h4⟩:=h;refine⟨f0,h1,bg h2 (g.st.write s t).2,h3,fun k a b =>?_⟩;rcases ND f s t k with c|c
 ·rw[c]at a b ⊢;exact h4 k a b
 ·have h2:(f0.1.1:Int)<=f.1.1:=h2
  have b:((aK (cK f s t).1 k).2.1:Int)<=f0.1.1:=b;rw[c]at b;omega
def Fc{s:aD}:∀{es:List FE},(es.map pq).Nodup->cW cJ (fU cJ es s) s=false
 |[],_=>rfl
 |y :: es,h=>by
  rw[a7,b5]at h;by_cases e:y.1=s
  ·have hd:fU cJ (y :: es) s=es:=if_pos e
   rw[hd];cases hh:cW cJ es s with
   |false=>rfl
   |true=>
    obtain⟨z,hz,e2⟩:=l6.1 hh;exact absurd (ao.2 ⟨z,hz,(e2.trans e.symm:pq z=pq y)⟩) h.1
  ·have hd:fU cJ (y :: es) s=y :: fU cJ es s:=if_neg e
   rw[hd];have:=Fc (s:=s) h.2;simp only[cW]at this ⊢;simp[this,e]
def Qx{f:cN}(g:gG f)(s:aD):(aK (fF f s).1 s).2.2=5:=by
 obtain⟨r,hr⟩:=g.st.gJ;cases hh:cW cJ f.2.1.1 s with
 |false=>rw[mz hh,lL hh]
 |true=>
  rw[lD hh,lL];exact Fc hr.names
def mu.remove{f:cN}{e:D aC}(h:mu f e)(g:gG f)(s:aD):mu (fF f s).1 e:=by
 obtain⟨f0,h1,h2,h3,h4⟩:=h;refine⟨f0,h1,bg h2 (g.st.remove s).2,h3,fun k a b =>?_⟩;by_cases c:k=s
 ·subst c;rw[Qx g]at a;cases a
 ·rw[PO c]at a b ⊢;exact h4 k a b
def mu.self{f:cN}(g:gG f){s:aD}{e:D aC}(h:dR (aK f) s=(e,0))(hs:e.1=s):mu f e:=⟨f,g,aw _,by rw[hs];exact h,fun _ _ _=>rfl⟩
def Qy{rd:Rd}{s:aD}(h:(dR rd s).2=0):(dR rd s).1.1=s:=by
 unfold dR at h ⊢;split
 ·rename_i c;rw[if_pos c]at h;exact absurd h c
 ·rfl
def mu.Xn{f:cN}{e:D aC}(h:mu f e)(hf:fL (aK f) e=true):dR (aK f) e.1=(e,0):=by
 obtain⟨f0,h1,h2,h3,h4⟩:=h;obtain⟨ns,os,bs,ps,e1,hr,em⟩:=ET h1.ok (root:=e.1) (by rw[h3];rfl);have he:e=(e.1,cB (aK f0) ns bs ns.length,ps,()):=by
  have:=em;rw[h3]at this;exact congrArg Prod.fst this
 rw[M8 e1 hr (rd':=aK f) fun k hk =>?_,h3];obtain⟨j,hj,rfl⟩:=fN (t:=.str) hk;obtain⟨_,q⟩:=EM hf;have hst:e.2.1=cB (aK f0) ns bs ns.length:=by rw[he]
 have qj:=q j (by rw[hst,eX];exact hj);rw[hst,ju hj]at qj;simp only at qj;have hrd:(aK f0 (nth .str ns j)).2.2=0:=by
  have:=ER h1.ok (s:=e.1) (by rw[e1]) (i:=j) (by rw[e1];exact hj);rw[e1]at this;exact this
 refine h4 _ qj.1 ?_;rw[qj.2];exact(h1.read hrd).2.2.2
def fJ(f:cN)(l:List (D aC))(s:aD):List (D jq)×Bool×Int:=
 if(dO l s).2=true/\fL (aK f) (dO l s).1=true then((kB (aK f) (dO l s).1).1,decide ((kB (aK f) (dO l s).1).2=0),(kB (aK f) (dO l s).1).2)
 else((hU (aK f) s).1,false,(hU (aK f) s).2)
def Fe{l:List (D aC)}{s:aD}(h:(dO l s).2=true):(dO l s).1∈l/\(dO l s).1.1=s:=by
 rcases oX l s with⟨i,i1,i2,i3,i4⟩|⟨j1,j2⟩
 ·rw[yA (by omega),i4,ai];exact⟨dQ (t:=aC) i1,i3⟩
 ·rw[Cy (by omega)]at h;cases h
structure gT (f:cN) (l:List (D aC)):Prop where
 gJ:gG f
 made:∀e∈l,mu f e
def gT.new:gT ql []:=⟨.new,fun e he=>absurd he (by simp)⟩
def gT.write{f:cN}{l:List (D aC)}(h:gT f l)(s t:aD):gT (cK f s t).1 l:=⟨h.gJ.write s t,fun e he=>(h.made e he).write h.gJ s t⟩
def gT.remove{f:cN}{l:List (D aC)}(h:gT f l)(s:aD):gT (fF f s).1 l:=⟨h.gJ.remove s,fun e he=>(h.made e he).remove h.gJ s⟩
def Tn{l:List (D aC)}{e x:D aC}(h:x∈(oN l e).1):x=e\/x∈l:=by
 unfold oN at h;split at h
 ·exact .inr h
 ·split at h
  ·exact .inr h
  ·rename_i l' hl
   unfold qo at hl;split at hl
   ·cases hl
    rcases cn h with h|h
    ·exact .inr h
    ·exact .inl h
   ·split at hl
    ·cases hl
    ·cases hl
     rcases bz.1 h with h|h
     ·exact .inr h
     ·exact .inl (bf.1 h)
def Qz{l:List (D aC)}{s:aD}{x:D aC}(h:x∈(jw l s).1):x∈l:=by
 unfold jw at h;split at h
 ·exact h
 ·exact(bh.1 h).1
def r9(f:cN)(l:List (D aC))(s:aD):List (D aC)×Int:=if(dR (aK f) s).2=0 then oN l (dR (aK f) s).1 else(l,(dR (aK f) s).2)
def gT.put{f:cN}{l:List (D aC)}(h:gT f l){s:aD}(hm:(dR (aK f) s).2=0):gT f (oN l (dR (aK f) s).1).1:=by
 refine⟨h.gJ,fun x hx =>?_⟩;rcases Tn hx with rfl|hx
 ·exact mu.self h.gJ (aj rfl hm) (Qy hm)
 ·exact h.made x hx
def gT.build{f:cN}{l:List (D aC)}(h:gT f l)(s:aD):gT f (r9 f l s).1:=by
 unfold r9;split
 ·rename_i hm;exact h.put hm
 ·exact h
def gT.drop{f:cN}{l:List (D aC)}(h:gT f l)(s:aD):gT f (jw l s).1:=⟨h.gJ,fun x hx=>h.made x (Qz hx)⟩
def gT.load{f:cN}{l:List (D aC)}(h:gT f l)(s:aD):(fJ f l s).1=(hU (aK f) s).1/\(fJ f l s).2.2=(hU (aK f) s).2/\
  (fJ f l s).2.1=((dO l s).2&&fL (aK f) (dO l s).1)/\((fJ f l s).2.1=true->(hU (aK f) s).2=0):=by
 unfold fJ;by_cases c:(dO l s).2=true/\fL (aK f) (dO l s).1=true
 ·rw[if_pos c]
  obtain⟨m1,m2⟩:=Fe c.1;have ha:=(h.made _ m1).Xn c.2;rw[m2]at ha;obtain⟨u1,u2,u3,u4⟩:=Fb h.gJ (root:=s) (by rw[ha];rfl);rw[ha]at u2;rw[u2,u1,c.1,c.2];exact⟨rfl,rfl,rfl,fun _=>rfl⟩
 ·rw[if_neg c]
  refine⟨rfl,rfl,?_,fun e=>by cases e⟩;show false=_;exact(Bool.eq_false_iff.2 fun e=>c (by rw[Bool.and_eq_true]at e;exact e)).symm
def vz(x:Sh):Prop:=x.1.2.1.length<=99/\0<=(x.1.1:Int)/\(x.1.1:Int)<=1000000000/\dA x.2 1000000
def sa(l:List (D aC)):Prop:=∀i,i<l.length->(nth aC l i).2.1.length<=1000/\(nth aC l i).2.2.1.length<=1000
def jQ(f:cN)(x:Sh)(s:aD):Sh×Int:=if(dR (aK f) s).2=0 then ky x (dR (aK f) s).1 else(x,(dR (aK f) s).2)
def QA{f:cN}{x:Sh}{s:aD}(h:¬(dR (aK f) s).2=0):jQ f x s=(x,(dR (aK f) s).2):=by unfold jQ;rw[if_neg h]
def NF{f:cN}{x:Sh}{s:aD}(h:(dR (aK f) s).2=0):jQ f x s=ky x (dR (aK f) s).1:=by unfold jQ;rw[if_pos h]
def NG{f:cN}(g:gG f){s:aD}(h:(dR (aK f) s).2=0):(dR (aK f) s).1.2.1.length<=1000000/\(dR (aK f) s).1.2.2.1.length<=1000000:=by
 have:=lG (Fb g (root:=s) (aP.2 h)).2.2.2;have h1:=this.p6;have h2:=this.Cm;exact⟨by omega,by omega⟩
def QB{l:List (D aC)}(h:sa l){s:aD}(hs:(dO l s).2=true):(dO l s).1.2.1.length<=1000:=by
 obtain⟨j,hj,e⟩:=fN (t:=aC) (Fe hs).1;rw[<-e];exact(h j hj).1
def sa.wide{l:List (D aC)}(h:sa l):∀i,i<l.length->(nth aC l i).2.1.length<=1000000/\(nth aC l i).2.2.1.length<=1000000:=fun i hi=>by
 have:=h i hi;omega
def QC{f:cN}{l:List (D aC)}{s:aD}(h1:(dO l s).2=true)(h2:fL (aK f) (dO l s).1=true) :
  fJ f l s=((kB (aK f) (dO l s).1).1,decide ((kB (aK f) (dO l s).1).2=0),(kB (aK f) (dO l s).1).2):=by unfold fJ;rw[if_pos ⟨h1,h2⟩]
def sV{f:cN}{l:List (D aC)}{s:aD}(h:¬((dO l s).2=true/\fL (aK f) (dO l s).1=true)):fJ f l s=((hU (aK f) s).1,false,(hU (aK f) s).2):=by unfold fJ;rw[if_neg h]
def Vl(n:Int):(aI n).isNil=decide (n=0):=by
 cases h:(aI n).isNil with
 |true=>rw[decide_eq_true (aP.1 h)]
 |false=>rw[decide_eq_false fun e=>by rw[aP.2 e]at h;cases h]
def eY.To{x:Sh}{m:List (D aC)}{k:Nat}(h:eY x m k):sa x.1.2.1:=fun i hi=>by
 obtain⟨r,h1,h2,h3⟩:=h.at;rw[h.list]at hi ⊢;have h:=lG (h3.tu _ (dQ (t:=aC) hi));have h1:=h.p6;have h2:=h.Cm;exact⟨by omega,by omega⟩
def NH{f:cN}{x:Sh}{k:Nat}(g:gG f)(h:eY x x.1.2.1 k)(hk:k<=1000)(s:aD):(jQ f x s).2=(r9 f x.1.2.1 s).2/\eY (jQ f x s).1 (r9 f x.1.2.1 s).1 (k+1):=by
 unfold jQ r9;by_cases c:(dR (aK f) s).2=0
 ·rw[if_pos c,if_pos c];exact Iy h hk _
 ·rw[if_neg c,if_neg c];exact⟨rfl,h.next⟩
def vA:Sh:=(((dP jk.2).1.1,(dP jk.2).1.2,()),jk.2)
def z1:vA=jk:=aj jE.again rfl
def vV:eY vA [] 0:=by rw[z1];exact jE
def Tp(f:Int):iA (aI f)=f:=by
 unfold aI;split
 ·rename_i h;rw[h];rfl
 ·rfl
def Tq{l:List (D aC)}(hn:(l.map (·.1)).Nodup){e:D aC}(h:e∈l):(dO l e.1).1=e:=by
 obtain⟨i,hi,rfl⟩:=fN (t:=aC) h;rcases oX l (nth aC l i).1 with⟨j,j1,j2,j3,j4⟩|⟨j1,j2⟩
 ·rw[yA (by omega),j4,ai]
  have hij:j=i:=by
   apply cm;intro hne;have e1:(l.map (·.1))[j]?=some (nth aC l i).1:=by rw[List.getElem?_map,lu (t:=aC) j1,<-j3];rfl
   have e2:(l.map (·.1))[i]?=some (nth aC l i).1:=by rw[List.getElem?_map,lu (t:=aC) hi];rfl
   exact hne ((List.getElem?_inj (by rw[az];exact j1) hn).1 (e1.trans e2.symm))
  rw[hij]
 ·exact absurd rfl (j1 i hi)
def CF{d:Dk}(h:(bP d).2=0):(bP d).1.2.1=(bP d).1.2.2.1:=by
 by_cases c:(stepOf d).2=0
 ·rw[Ep c]
 ·rw[y9 c]at h;exact absurd h c
def IA:jk.2.2.1=jk.2.2.2.1:=by
 have e:iP (qQ 112)=gD (qQ 112):=me _;have h0:(gD (qQ 112)).2=0:=by rw[<-e];exact(qK (r8 (aw _))).1
 show(iP (qQ 112)).1.2.1=(iP (qQ 112)).1.2.2.1;rw[e];unfold gD at h0 ⊢;split at h0
 ·cases h0
 ·split at h0
  ·rename_i c;exact absurd h0 c
  ·split at h0
   ·rename_i c;exact absurd h0 c
   ·split at h0
    ·rename_i c;exact absurd h0 c
    ·rename_i c1 c2 c3 c4
     rw[if_neg c1,if_neg c2,if_neg c3,if_neg c4];exact CF h0
def Sync(x:Sh):Prop:=x.2.2.1=x.2.2.2.1
def NI{d:Dk}{r:Int}{l:List (D aC)}(h:(eK d r l).2=0):(eK d r l).1.2.1=(eK d r l).1.2.2.1:=by
 unfold eK at h ⊢;split at h
 ·rename_i c;exact absurd h c
 ·split at h
  ·rename_i c;exact absurd h c
  ·split at h
   ·rename_i c;exact absurd h c
   ·split at h
    ·rename_i c;exact absurd h c
    ·rename_i c1 c2 c3 c4
     rw[if_neg c1,if_neg c2,if_neg c3,if_neg c4];exact CF h
def CG{x:Sh}{l:List (D aC)}(h:(qn x l).2=0):Sync (qn x l).1:=NI (d:=x.2) h
def Ts{x:Sh}{m:List (D aC)}{k:Nat}(h:eY x m k)(hk:k<=1000)(hs:Sync x)(e:D aC):Sync (ky x e).1:=by
 have hb:=(Iy h hk e).1;have hl:=h.list;unfold ky at hb ⊢;unfold oN at hb;rw[hl]at hb ⊢;have:=vQ e;by_cases hf:bB e=0
 ·rw[if_neg (not_not_intro hf)]at hb ⊢
  rw[if_neg (by omega)]at hb;cases hp:qo m e with
  |none=>exact hs
  |some l=>rw[hp]at hb;exact CG hb
 ·rw[if_pos hf];exact hs
def QD{x:Sh}{m:List (D aC)}{k:Nat}(h:eY x m k)(hk:k<=1000)(hs:Sync x)(s:aD):Sync (dH x s).1:=by
 have hb:=(E8 h hk s).1;have hl:=h.list;rcases oX m s with⟨i,i1,i2,i3,i4⟩|⟨j1,j2⟩
 ·have e:=vw h.names i1 i3
  have el:(m.eraseIdx i).length=m.length-1:=by rw[b6,if_pos i1]
  have ed:jw m s=(m.eraseIdx i,0):=by unfold jw;rw[if_neg (by rw[e,el];omega),e]
  rw[ed]at hb;unfold dH at hb ⊢;rw[if_pos (by rw[hl,i4];omega)]at hb ⊢;exact CG hb
 ·unfold dH
  rw[if_neg (by rw[hl,j2];omega)];exact hs
def gT.done{l:List (D aC)}:∀(a:List (D dB)) {f:cN},gT f l->gT (js f a) l
 |[],_,h=>h
 |a :: r,f,h=>by
  have:gT (mJ f a) l:=by
   unfold mJ;split
   ·exact h.write _ _
   ·split
    ·exact h.remove _
    ·exact h
  exact gT.done r this
structure jG (f:cN) (x:Sh) (k:Nat):Prop where
 kept:gT f x.1.2.1
 jL:eY x x.1.2.1 k
 sync:Sync x
def jG.next{f:cN}{x:Sh}{k:Nat}(h:jG f x k):jG f x (k+1):=⟨h.kept,h.jL.next,h.sync⟩
def jG.done{f:cN}{x:Sh}{k:Nat}(h:jG f x k)(a:List (D dB)):jG (js f a) x (k+1):=⟨h.kept.done a,h.jL.next,h.sync⟩
def jG.build{f:cN}{x:Sh}{k:Nat}(h:jG f x k)(hk:k<=1000)(s:aD):jG f (jQ f x s).1 (k+1)/\(jQ f x s).2=(r9 f x.1.2.1 s).2/\(jQ f x s).1.1.2.1=(r9 f x.1.2.1 s).1:=by
 have hb:=NH h.kept.gJ h.jL hk s;refine⟨⟨?_,hb.2.self,?_⟩,hb.1,hb.2.list⟩
 ·rw[hb.2.list];exact h.kept.build s
 ·unfold jQ
  split
  ·exact Ts h.jL hk h.sync _
  ·exact h.sync
def jG.drop{f:cN}{x:Sh}{k:Nat}(h:jG f x k)(hk:k<=1000)(s:aD):jG f (dH x s).1 (k+1)/\(dH x s).2=(jw x.1.2.1 s).2/\(dH x s).1.1.2.1=(jw x.1.2.1 s).1:=by
 have hb:=E8 h.jL hk s;refine⟨⟨?_,hb.2.self,QD h.jL hk h.sync s⟩,hb.1,hb.2.list⟩;rw[hb.2.list];exact h.kept.drop s
def jG.lO{f:cN}{x:Sh}{k:Nat}(h:jG f x k):f.2.1.1.length<=6:=h.kept.gJ.st.pre.1
def Tt{rd:Rd}{s:aD}{n:Int}(h:rd s=(AS,n,0)):hU rd s=([(s,0,[3],())],0):=by
 refine PM (PN h WZ rfl) (bs:=[0]) (ps:=[(0,0,3,())]) (w:=[[3]]) rfl ?_ rfl rfl ?_ rfl
 ·rw[Dh rfl (by
   intro i hi;obtain rfl:i=0:=by simp at hi;omega
   simp[nth])]
  have h1:gS [Wv] [0] 0 (0,1,3,[],false,())=(3,.nil):=(AF rfl).trans (Di (by decide) rfl (by decide));simp[nO,n8,ox,h1,aL.isNil]
 ·intro i hi
  obtain rfl:i=0:=by simp at hi;omega
  unfold tU;decide
def QF:cN:=(cK ql [122,122] AS).1
def IB:cN:=(fF QF [122,122]).1
def Vm:aK QF [122,122]=(AS,1,0):=by decide
def Vn:hU (aK QF) [122,122]=([([122,122],0,[3],())],0):=Tt Vm
def Tu:gG QF:=gG.new.write _ _
def Wz:cN:=((0+1,()),(eU cJ [] [122,122] (AS,0+1,()) 0,mR cJ [] [122,122] 0,()),())
def UA:QF=Wz:=rfl
def Vo:Wz.2.1.1.length<=6:=by rw[<-UA];exact Tu.st.pre.1
def DD:fJ Wz vA.1.2.1 [122,122]=([([122,122],0,[3],())],false,0):=by
 rw[show vA.1.2.1=[]from vV.list,sV (fun z=>by rw[Cy (oW _)]at z;exact cp z.1),<-UA,Vn]
def Vp:gT IB []:=(gT.new.write _ _).remove _
def Vq:jG IB jk 0:=⟨Vp,jE,IA⟩
def Ff{l:List (D aC)}(hn:(l.map (·.1)).Nodup){e:D aC}(h:e∈l):dO l e.1=(e,true):=by
 have h1:=Tq hn h;rcases oX l e.1 with⟨i,i1,i2,i3,i4⟩|⟨j1,j2⟩
 ·rw[yA (by omega)]at h1 ⊢
  exact congrArg (fun z=>(z,true)) h1
 ·obtain⟨j,hj,rfl⟩:=fN (t:=aC) h
  exact absurd rfl (j1 j hj)
def vB{l:List (D aC)}{s:aD}(h:∀e∈l,e.1≠s):dO l s=(bW aC,false):=by
 rcases oX l s with⟨i,i1,i2,i3,i4⟩|⟨j1,j2⟩
 ·exact absurd i3 (h _ (dQ (t:=aC) i1))
 ·exact Cy (by omega)
def sb(l:List (D aC))(s:aD):(jw l s=(nL l s,0)/\∃e∈l,e.1=s)\/(jw l s=(l,5)/\∀e∈l,e.1≠s):=by
 by_cases c:∃e∈l,e.1=s
 ·left
  refine⟨?_,c⟩;obtain⟨e,he,hs⟩:=c;unfold jw;rw[if_neg];intro hl;have:=bd.1 (cq.eq_of_length hl) e he;simp[hs]at this
 ·right
  have hc:∀e∈l,e.1≠s:=fun e he hs=>c ⟨e,he,hs⟩
  refine⟨?_,hc⟩;unfold jw;rw[if_pos];unfold nL;rw[bd.2 fun e he=>decide_eq_true (hc e he)]
def sW(l:List (D aC))(s:aD):dO (jw l s).1 s=(bW aC,false):=by
 rcases sb l s with h|h <;> rw[h.1]
 ·exact vB fun e he=>of_decide_eq_true (bh.1 he).2
 ·exact vB h.2
def vC{l:List (D aC)}(hn:(l.map (·.1)).Nodup){s o:aD}(ho:¬s=o):dO (jw l s).1 o=dO l o:=by
 rcases sb l s with h|h <;> rw[h.1]
 show dO (nL l s) o=_;have hk:((nL l s).map (·.1)).Nodup:=hn.sublist (cq.map _);by_cases c:∃e∈l,e.1=o
 ·obtain⟨e,he,rfl⟩:=c
  rw[Ff hn he,Ff hk (bh.2 ⟨he,decide_eq_true fun h=>ho h.symm⟩)]
 ·rw[vB fun e he hs=>c ⟨e,he,hs⟩,vB (l:=nL l s) fun e he hs=>c ⟨e,(bh.1 he).1,hs⟩]
def A0{l:List (D aC)}(hn:(l.map (·.1)).Nodup){s:aD}(h0:(jw l s).2=0):(jw l s).1.length+1=l.length:=by
 rcases oX l s with⟨i,i1,i2,i3,i4⟩|⟨j1,j2⟩
 ·rcases sb l s with h|h
  ·rw[h.1]
   show(nL l s).length+1=l.length;rw[vw hn i1 i3,b6,if_pos i1];omega
  ·rw[h.1]at h0;cases h0
 ·rcases sb l s with h|h
  ·obtain⟨e,he,hs⟩:=h.2
   obtain⟨j,hj,rfl⟩:=fN (t:=aC) he;exact absurd hs (j1 j hj)
  ·rw[h.1]at h0;cases h0
def Kb{f:cN}{l l':List (D aC)}{s:aD}(h:dO l s=dO l' s):fJ f l s=fJ f l' s:=by unfold fJ;rw[h]
def NJ{f:cN}{l:List (D aC)}{s:aD}(h:dO l s=(bW aC,false)):(fJ f l s).2.1=false:=by
 rw[sV fun z=>by rw[h]at z;exact cp z.1]
def jG.sW{f:cN}{x:Sh}{k:Nat}(h:jG f x k)(hk:k<=1000)(s:aD):(fJ f (dH x s).1.1.2.1 s).2.1=false:=by
 rw[(h.drop hk s).2.2];exact NJ (Mrl.sW _ _)
def jG.vC{f:cN}{x:Sh}{k:Nat}(h:jG f x k)(hk:k<=1000){s o:aD}(ho:¬s=o):fJ f (dH x s).1.1.2.1 o=fJ f x.1.2.1 o:=by
 rw[(h.drop hk s).2.2];exact Kb (Mrl.vC h.jL.names ho)
def jG.IC{f:cN}{x:Sh}{k:Nat}(h:jG f x k)(s:aD):(fJ f x.1.2.1 s).2.2=(hU (aK f) s).2:=(h.kept.load s).2.1
def jG.Tv{f:cN}{x:Sh}{k:Nat}(h:jG f x k)(hk:k<=1000)(s o:aD):(fJ f (dH x s).1.1.2.1 o).2.2=(fJ f x.1.2.1 o).2.2:=by
 rw[(h.drop hk s).1.IC,h.IC]
def xL(l:List (D aC)):(fX l).length=l.length:=by simp[fX]
def jG.A0{f:cN}{x:Sh}{k:Nat}(h:jG f x k)(hk:k<=1000){s:aD}(h0:(dH x s).2=0):((fX (dH x s).1.1.2.1).length:Int)=((fX x.1.2.1).length:Int)-1:=by
 have hd:=h.drop hk s;rw[hd.2.1]at h0;have:=Mrl.A0 h.jL.names h0;rw[xL,xL,hd.2.2];omega
def jG.Fg{f:cN}{x:Sh}{k:Nat}(h:jG f x k)(hk:k<=1000){s:aD}(h0:¬(dH x s).2=0):(dH x s).2=5/\(dH x s).1.1.2.1=x.1.2.1:=by
 have hd:=h.drop hk s;rw[hd.2.1]at h0 ⊢;rcases sb x.1.2.1 s with z|z
 ·rw[z.1]at h0;exact absurd rfl h0
 ·rw[hd.2.2,z.1];exact⟨rfl,rfl⟩
end Go.Mrl

namespace Go.Vg
open Go
def Kc{H:Type}{enc:TypeId×Value->H}{a:Assume}{C:Checked}{os:Os}{f:FuncId}{fn:Func}{s:ChangeSpec}{conds:List PathCond}{apart fresh handsOn again:Bool}{X:World->Array Value->Prop}
  (hX:∀(w w':World) (args:Array Value),w.heap=w'.heap->X w args->X w' args)
  (own:ownKnob C.prog.godebug=none)(started:os.Started)(noInit:C.prog.inits.idxOf? f=none)(hfn:C.prog.funcs[f]?=some fn)
  (witness:∃(w:World) (tape:Tape) (i:Input),w.os=os/\(w.forCall tape i).Shaped C.prog/\i.vars=[]/\Input.okWide C.prog (w.forCall tape i) .any w.heap.size f i/\
   ((s.pre enc C.prog fn conds apart (w.forCall tape i).memory i.args/\X (w.forCall tape i).memory i.args)/\sizedMet enc C.prog fn (cr s) apart (w.forCall tape i).memory i.args)/\a.holds C.prog (lone (Frame.enter C.prog f i.args .normal) [] (w.forCall tape i)))
  (contract:∀(W:World) (base:Nat) (args:Array Value) (ds gs:List (DataW H)) (before:List MemPlace),
   (∀(j:Nat) t v,fn.params[j]?=some t->args[j]?=some v->Value.okWide C.prog W .any base t v)->
   DataW.Whole enc C.prog fn.params.toList s.vars apart W args.toList ds gs before->
   X W args->W.ShapedOpen C.prog->
   Calls C.prog f args W fun e W'=>∃v,e=.returned v/\s.post enc C.prog fn apart fresh handsOn again W args v W') :
  ReturnsInHanded a C os f .any (fun w args=>(s.pre enc C.prog fn conds apart w args/\X w args)/\sizedMet enc C.prog fn (cr s) apart w args) (s.post enc C.prog fn apart fresh handsOn again):=by
 refine returnsInHanded_of_calls own started noInit witness ?_;intro w tape i _ hsh _ hok hpre hholds;obtain⟨_,_,_,fn',hfn',_,_,_,_,hval⟩:=hok;have e:fn'=fn:=ar (hfn'.symm.trans hfn);subst e;obtain⟨⟨⟨ds,gs,before,hw,hc⟩,hx⟩,hz⟩:=hpre;have hw':=DataW.Whole.of_heap (w':=w.forCall tape i) (by rfl) hw;refine(contract (w.forCall tape i) w.heap.size i.args ds gs before hval hw' (hX _ _ _ (by rfl) hx) hsh).mono fun e W' ⟨v,he,hp⟩ =>?_
 subst he;exact ChangeSpec.post_blind hp
def ID{P:Program}{w:World}{g:Nat}{t:TypeId}{zero:Array Value}(h:w.ShapedOpen P)(hg:g<P.globals.size)
  (h0:((begin P (fun _ _=>0) default).world.heap[g]?).bind Obj.row?=some (zero,t))(hz:zero.size=1)
  (hb:P.buildable t=true)(hc:P.cellTypes P.depth t=some [t])(hu:P.underlying t=some (.int .i64)):∃m,w.cell? ⟨g,0,none⟩=some (.int .i64 m):=by
 obtain⟨cs,hh,hs,hr⟩:=h.1 g zero t hg h0;obtain⟨ts,hts,_,hall⟩:=hr hb;rw[hc]at hts;cases hts;have h1:0<cs.size:=by omega
 obtain⟨u,hu',hok⟩:=hall 0 cs[0] (by simp[h1]);have:u=t:=by simpa using hu'.symm
 subst this;have hcell:w.cell? ⟨g,0,none⟩=some cs[0]:=by simp[World.cell?,hh,h1]
 rw[hcell];unfold Cell.ok at hok;rw[hu]at hok;cases hv:cs[0] <;> rw[hv]at hok <;> first|exact hok.elim|(obtain⟨rfl,_⟩:=hok;exact⟨_,rfl⟩)|simp at hok
def UB:Option TypeDesc->Bool
 |some (.interface _)=>true
 |_=>false
def ui{P:Program}{W:World}{name nm:String}{d:DataW Unit}{g:Nat}{t:TypeId}
  (hg:P.globalNamed name=some g)(hty:(P.globals[g]?).map (·.type)=some t)(hi:UB (P.underlying t)=true)
  (h:Lib.VarReads P W name (.iface nm d)):∃ev,W.cell? ⟨g,0,none⟩=some ev/\(ev=.nilIface\/∃te pe,ev=.iface te pe):=by
 obtain⟨g',t',cs,fuel,p,hg',ht',hvar,hd⟩:=h;obtain rfl:=ar (hg.symm.trans hg');obtain rfl:=ar (hty.symm.trans ht');have hc:=World.var?_cell hg hvar 0;obtain⟨ms,hu⟩:∃ms,P.underlying t=some (.interface ms):=by
  unfold UB at hi;split at hi
  ·rename_i ms hm;exact⟨ms,hm⟩
  ·cases hi
 cases fuel with
 |zero=>simp[b8]at hd
 |succ n=>
  cases hl:cs.toList with
  |nil=>rw[hl]at hd;simp[b8,hu]at hd
  |cons v r=>
   have h0:cs[0]?=some v:=by rw[<-Array.getElem?_toList,hl];rfl
   rw[h0]at hc;refine⟨v,hc,?_⟩;rw[hl]at hd;cases v <;> first|exact .inl rfl|exact .inr ⟨_,_,rfl⟩|(simp[b8,hu]at hd)
def IE{P:Program}{W:World}{name:String}{k:IntKind}{zs:List Int}{g:Nat}{t e:TypeId}{n:Nat}
  (hg:P.globalNamed name=some g)(hty:(P.globals[g]?).map (·.type)=some t)(ht:P.underlying t=some (.array n e))(he:P.underlying e=some (.int k))(hce:P.cellsOf e=1)(hct:P.cellsOf t=n)
  (h:Lib.VarReads P W name (Lib.tabData k zs)):Lib.TabIs P W name k zs:=by
 obtain⟨g',t',cs,fuel,p,hg',ht',hvar,hd⟩:=h;obtain rfl:=ar (hg.symm.trans hg');obtain rfl:=ar (hty.symm.trans ht');unfold Lib.TabIs;rw[hvar,<-Lib.cells_of_tab ht he hce hct hd]
end Go.Vg

