/- A part of the proof that the law TopAgainCard holds of the given program: facts that are used there. -/
import Derived.Test.YtgokjhhcfemnhadGreatDoorPart2
import Derived.Handed
import Derived.Clock
import Derived.Lib.LaidTab
import Derived.Lib.LaidU8
import Derived.Lay
set_option linter.unusedSimpArgs false
set_option linter.unusedVariables false
set_option linter.defProp false
noncomputable section
open List renaming length_append->ab,take->ad,length_cons->ae,length_set->af,drop->ah,mem_map->ao,length_take->aq,range->ax,map_cons->az,mem_singleton->bc,cons_append->bh,length_map->bj,length_range->bk,filter_append->bp,length_singleton->bt,filter_cons->bu,mem_append->bw,replicate->bx,nodup_cons->bz,mem_cons->b6,nil_append->b7,length_nil->b8,length_drop->b9,take_length->cf,append_assoc->cg,filter_eq_self->ch,ext_getElem?->ck,mem_or_eq_of_mem_set->cm,length_eraseIdx->cn
open Go.Lib renaming splitK->ag,count_one->ba,count->bm,index->bq
open Prod renaming ext->ai
open Int renaming toNat_natCast->aj,le_refl->aw,tmod_eq_emod_of_nonneg->ay,le_trans->bd,ofNat_le->b4
open Nat renaming le_trans->ak,lt_of_lt_of_le->al,le_refl->a7,or_lt_two_pow->a8,mul_le_mul_right->bb,mul_lt_mul_of_pos_right->bo,add_mul->br,not_lt_zero->cj
open Option.some renaming inj->ar
open Go.IntKind renaming wrap->au,i64->av
open BitVec renaming ofInt->bf
open Classical renaming not_not->bg,choose->cc,choose_spec->cd
open Go.DataW renaming trod->b5
open Go.OpenSpec renaming ofChange->cp
namespace Go.Mrl
open Go.Vg
def eA(l:List (D aC))(s:aD):Int:=match l.findIdx? (fun e=>decide (e.1=s))with
 |some i=>(i:Int)
 |none =>-1
def rp{l:List (D aC)}{s:aD}(h:∀j,j<l.length->(nth aC l j).1≠s):eA l s= -1:=by
 unfold eA;rw[List.findIdx?_eq_none_iff.2 fun e he=>by
  obtain⟨j,hj,rfl⟩:=hH (t:=aC) he;exact decide_eq_false (h j hj)]
def AY{l:List (D aC)}{s:aD}{i:Nat}(hi:i<l.length)(h:∀j,j<i->(nth aC l j).1≠s)(he:(nth aC l i).1=s):eA l s=(i:Int):=by
 unfold eA;have hn:∀j (hj:j<l.length),l[j]=nth aC l j:=fun j hj=>by unfold nth;rw[List.getD_eq_getElem?_getD,List.getElem?_eq_getElem hj];rfl
 rw[(List.findIdx?_eq_some_iff_getElem (xs:=l) (p:=fun e=>decide (e.1=s)) (i:=i)).2 ⟨hi,by rw[hn i hi];exact decide_eq_true he,fun j hj=>by
  rw[hn j (by omega)];simp only[decide_eq_true_eq];exact h j hj⟩]
def vz(n:Int):Int:=au .u8 n
def jV(n:Int):aD:=bytesOf [vz n,vz (n.fdiv (2^8)),vz (n.fdiv (2^16)),vz (n.fdiv (2^24))]
def fG(a b:Int):aD:=[83]++jV a++jV b
def sV(n:Int):(jV n).length=4:=by simp[jV,bytesOf]
def EX(a b:Int):(fG a b).length=9:=by simp[fG,sV]
def Qk(a b:Int):Int:=au .i64 (bf av.bits a ||| bf av.bits b).toNat
def Ql(a:Int)(n:Nat):Int:=au .i64 (a*2^n)
def iP(s:aD):Int:=Qk (Qk (Qk ((dP s 0).toNat:Int) (Ql ((dP s 1).toNat:Int) 8)) (Ql ((dP s 2).toNat:Int) 16)) (Ql ((dP s 3).toNat:Int) 24)
def lH:List (D aC)->Int
 |[]=>0
 |e :: r=>if bC e≠0 then bC e else lH r
def fH(l:List (D aC)):aD:=l.flatMap fO
def dN(l:List (D aC)):aD×aK:=if lH l≠0 then([],aI (lH l))else(fH l,.nil)
def Lm:∀{l:List (D aC)} {i:Nat},(∀j,j<i->bC (nth aC l j)=0)->i<l.length->bC (nth aC l i)≠0->lH l=bC (nth aC l i)
 |[],i,_,h,_=>by simp at h
 |e :: r,0,_,_,h=>by unfold lH;rw[if_pos (show bC e≠0 from h)];rfl
 |e :: r,i+1,h,h1,h2=>by
  unfold lH;rw[if_neg (by have:=h 0 (by omega);exact not_not_intro this)];exact Lm (l:=r) (i:=i) (fun j hj=>h (j+1) (by omega)) (by simpa using h1) h2
def EY:∀{l:List (D aC)},(∀j,j<l.length->bC (nth aC l j)=0)->lH l=0
 |[],_=>rfl
 |e :: r,h=>by
  unfold lH;rw[if_neg (by have:=h 0 (by simp);exact not_not_intro this)];exact EY (l:=r) fun j hj=>h (j+1) (by simp;omega)
def Ig:∀{l:List (D aC)},lH l=0->∀e∈l,bC e=0
 |[],_,_,h=>by simp at h
 |e :: r,hb,x,hx=>by
  unfold lH at hb;split at hb
  ·rename_i h;exact absurd hb h
  ·rename_i h
   rcases b6.1 hx with rfl|hx
   ·exact bg.1 h
   ·exact Ig hb x hx
def Qm{l:List (D aC)}{i:Nat}(h:i<l.length):fH (l.take (i+1))=fH (l.take i)++fO (nth aC l i):=by
 unfold fH;rw[ig (t:=aC) h];simp
def Qn{e:D aC}(h:bC e=0):(fO e).length<=2753:=by
 have:=(lF h).AK e.2.2.1.length;unfold fO rm;rw[ab];simp;omega
def AZ:∀{l:List (D aC)},(∀e∈l,bC e=0)->(fH l).length<=2753*l.length
 |[],_=>by simp[fH]
 |e :: r,h=>by
  have h1:=Qn (h e (by simp));have h2:=AZ (l:=r) fun x hx=>h x (by simp[hx])
  have h3:fH (e :: r)=fO e++fH r:=rfl;rw[h3,ab,ae];omega
def Qo{l:List (D aC)}{i:Nat}(hq:∀j,j<i->bC (nth aC l j)=0)(hi:i<l.length)(h:(dJ (nth aC l i)).2.isNil=false):([],(dJ (nth aC l i)).2)=dN l:=by
 have hf:bC (nth aC l i)≠0:=fun e=>by rw[H9,e]at h;cases h
 unfold dN;rw[Lm hq hi hf,if_pos hf,H9]
def Tk{l:List (D aC)}{i:Nat}(hq:∀j,j<i->bC (nth aC l j)=0)(hi:¬i<l.length):(fH (l.take i),aK.nil)=dN l:=by
 unfold dN;rw[EY fun j hj=>hq j (by omega),if_neg (by decide),List.take_of_length_le (by omega)]
def Qp{l:List (D aC)}{i:Nat}(h:i<l.length)(ht:(dJ (nth aC l i)).2.isNil=true):fH (l.take (i+1))=fH (l.take i)++(dJ (nth aC l i)).1:=by
 rw[Qm h,(vu ht).2]
def Qq{l:List (D aC)}{i:Nat}(hl:l.length<=100)(hi:i<l.length)(hq:∀j,j<i->bC (nth aC l j)=0):(fH (l.take i)).length<=275300:=by
 have h1:∀e∈l.take i,bC e=0:=fun e he=>by
  obtain⟨j,hj,rfl⟩:=hH (t:=aC) he;rw[aq]at hj;rw[AG (t:=aC) (by omega)];exact hq j (by omega)
 have h2:=AZ h1;rw[aq]at h2;omega
def mq(bs:List Int):Dk->Int->List Nat->Dk×Int
 |d,_,[]=>(d,0)
 |d,s,i :: r=>if(bL d s (bytesOf (eE (t:=.int .u8) bs 64 i))).2=0 then mq bs (bL d s (bytesOf (eE (t:=.int .u8) bs 64 i))).1 (s+1) r else bL d s (bytesOf (eE (t:=.int .u8) bs 64 i))
def Ih(bs:List Int)(i:Nat):∀(pre:List Nat) (d:Dk) (s:Int),(mq bs d s pre).2=0->
  mq bs d s (pre++[i])=bL (mq bs d s pre).1 (s+pre.length) (bytesOf (eE (t:=.int .u8) bs 64 i))
 |[],d,s,_=>by
  simp only[b7,mq,b8];rw[show s+((0:Nat):Int)=s by omega];split
  ·rename_i h
   exact ai rfl h.symm
  ·rfl
 |j :: r,d,s,h=>by
  simp only[bh,mq]at h ⊢;split
  ·rename_i h1
   rw[if_pos h1]at h;rw[Ih bs i r _ _ h,ae];congr 1;omega
  ·rename_i h1
   rw[if_neg h1]at h;exact absurd h h1
structure cW (d:Dk) (m:Nat):Prop where
 lI : -1<=(d.1.1:Int)
 mm:d.2.2.2.1.length<=m
 len:d.2.1.length=d.2.2.1.length
def cW.mono{d:Dk}{m m':Nat}(h:cW d m)(hm:m<=m'):cW d m':=⟨h.lI,ak h.mm hm,h.len⟩
def sW{d:Dk}{m:Nat}(h:cW d m):cW (stepOf d).1 m:=by
 unfold stepOf;split
 ·exact h
 ·split
  ·exact⟨aw _,h.mm,h.len⟩
  ·refine⟨?_,h.mm,h.len⟩
   have:=h.lI;show -1<=(if 0<d.1.1 then d.1.1-1 else d.1.1);split <;> omega
def ma{d:Dk}{m:Nat}(h:cW d m)(a:Int)(s:aD):cW (bL d a s).1 (m+1):=by
 unfold bL;split
 ·exact h.mono (by omega)
 ·split
  ·refine⟨(sW h).lI,?_,?_⟩
   ·show(d.2.2.2.1++[(a,eH s,())]).length<=m+1
    rw[ab];have:=h.mm;simp;omega
   ·show d.2.1.length=(d.2.2.1.set a.toNat (eH s)).length
    rw[af];exact h.len
  ·exact(sW h).mono (by omega)
def rq{d:Dk}{m:Nat}(h:cW d m):cW (bP d).1 m:=by
 unfold bP;split
 ·exact⟨(sW h).lI,Nat.zero_le _,rfl⟩
 ·exact sW h
def Ii(bs:List Int):∀(pre:List Nat) {d:Dk} {s:Int} {m:Nat},cW d m->cW (mq bs d s pre).1 (m+pre.length)
 |[],_,_,_,h=>h
 |i :: r,d,s,m,h=>by
  simp only[mq];split
  ·exact(Ii bs r (ma h _ _)).mono (by simp;omega)
  ·exact(ma h _ _).mono (by simp)
def im(l:List (D aC))(r:Int)(d:Dk)(pre:List Nat):Dk×Int:=mq (bI (dN l).1) d (2+(r+1).tmod 2*55) pre
def iq(l:List (D aC)):List Nat:=ax (fI (bI (dN l).1).length 64)
def CA(l:List (D aC))(r:Int)(d:Dk):Dk×Int:=bP (im l r d (iq l)).1
def vW(l:List (D aC))(r:Int)(d:Dk):Dk×Int:=bL (CA l r d).1 ((r+1).tmod 2) (fG (r+1) (dN l).1.length)
def eI(d:Dk)(r:Int)(l:List (D aC)):Dk×Int:=
 if lH l≠0 then(d,lH l)
 else if(im l r d (iq l)).2≠0 then im l r d (iq l)
 else if(CA l r d).2≠0 then CA l r d
 else if(vW l r d).2≠0 then vW l r d
 else bP (vW l r d).1
def UG{r:Int}(h:0<=r):0<=(r+1).tmod 2/\(r+1).tmod 2<=1:=by rw[ay (by omega)];omega
def EZ{l:List (D aC)}(h:l.length<=100):(dN l).1.length<=275300:=by
 unfold dN;split
 ·simp
 ·rename_i hb
  have:=AZ (Ig (bg.1 hb));show(fH l).length<=275300;omega
def qQ{l:List (D aC)}(h:(dN l).2.isNil=true):(dN l).2=.nil/\lH l=0:=by
 unfold dN at h ⊢;split at h
 ·rename_i hb;exact absurd (aQ.1 h) hb
 ·rename_i hb;rw[if_neg hb];exact⟨rfl,bg.1 hb⟩
def Ij{l:List (D aC)}{r:Int}{d:Dk}(h:cW d 1000000)(pre:List Nat):cW (im l r d pre).1 (1000000+pre.length):=Ii _ pre h
def vA{l:List (D aC)}(h:l.length<=100):fI (bI (dN l).1).length 64<=5000:=by
 have:=EZ h;unfold fI;rw[bI,bj];omega
def Qr{l:List (D aC)}(d:Dk)(r:Int)(h:(dN l).2.isNil=false):eI d r l=(d,lH l)/\lH l≠0/\(dN l).2=aI (lH l):=by
 have hb:lH l≠0:=fun e=>by unfold dN at h;rw[if_neg (not_not_intro e)]at h;cases h
 exact⟨by unfold eI;rw[if_pos hb],hb,by unfold dN;rw[if_pos hb]⟩
def se{l o:List (D aC)}{d:Dk}{r:Int}{z:Dk×Int}(hk:eI d r l=z)(hz:z.2≠0) :
  (((r,o,()),z.1):(Int×List (D aC)×Unit)×Dk)=(if(eI d r l).2=0 then(r+1,l,())else(r,o,()),(eI d r l).1)/\(aI z.2,())=(aI (eI d r l).2,()):=by
 rw[hk,if_neg hz];exact⟨rfl,rfl⟩
def Qs{l o:List (D aC)}{d:Dk}{r:Int}{z:Dk×Int}(hk:eI d r l=z)(hz:z.2=0) :
  (((r+1,l,()),z.1):(Int×List (D aC)×Unit)×Dk)=(if(eI d r l).2=0 then(r+1,l,())else(r,o,()),(eI d r l).1)/\(aI z.2,())=(aI (eI d r l).2,()):=by
 rw[hk,if_pos hz];exact⟨rfl,rfl⟩
def Ik(bs:List Int)(i:Nat)(rest:List Nat):∀(pre:List Nat) (d:Dk) (s:Int),(mq bs d s pre).2=0->(bL (mq bs d s pre).1 (s+pre.length) (bytesOf (eE (t:=.int .u8) bs 64 i))).2≠0->
  mq bs d s (pre++i :: rest)=bL (mq bs d s pre).1 (s+pre.length) (bytesOf (eE (t:=.int .u8) bs 64 i))
 |[],d,s,_,h=>by
  simp only[b7,mq,b8]at h ⊢;rw[show s+((0:Nat):Int)=s by omega]at h ⊢;rw[if_neg h]
 |j :: r,d,s,h,h2=>by
  simp only[bh,mq]at h h2 ⊢;by_cases h1:(bL d s (bytesOf (eE (t:=.int .u8) bs 64 j))).2=0
  ·simp only[if_pos h1]at h h2 ⊢
   rw[ae,show s+((r.length+1:Nat):Int)=s+1+(r.length:Int) by omega]at h2 ⊢;exact Ik bs i rest r _ _ h h2
  ·rw[if_neg h1]at h
   exact absurd h h1
def Tl{i m:Nat}(h:i<m):∃rest,ax m=ax i++i :: rest:=by
 obtain⟨b,rfl⟩:∃b,m=i+(b+1):=⟨m-i-1,by omega⟩
 rw[List.range_add,List.range_succ_eq_map];exact⟨_,by simp only[az,Nat.add_zero];rfl⟩
def NA{l:List (D aC)}{d:Dk}{r:Int}{pre:List Nat}{i:Nat}(h0:(dN l).2.isNil=true)(hp:(im l r d pre).2=0)(e:pre=ax i)(hi:pre.length<fI (bI (dN l).1).length 64)
  (hw:(bL (im l r d pre).1 (2+(r+1).tmod 2*55+(pre.length:Int)) (bytesOf (eE (t:=.int .u8) (bI (dN l).1) 64 i))).2≠0) :
  eI d r l=bL (im l r d pre).1 (2+(r+1).tmod 2*55+(pre.length:Int)) (bytesOf (eE (t:=.int .u8) (bI (dN l).1) 64 i)):=by
 have hil:i<fI (bI (dN l).1).length 64:=by rw[e,bk]at hi;exact hi
 obtain⟨rest,hr⟩:=Tl hil;have hall:im l r d (iq l)=bL (im l r d pre).1 (2+(r+1).tmod 2*55+(pre.length:Int)) (bytesOf (eE (t:=.int .u8) (bI (dN l).1) 64 i)):=by
  unfold im iq;rw[hr,<-e];exact Ik _ i rest pre d _ hp hw
 unfold eI;rw[if_neg (not_not_intro (qQ h0).2),hall,if_pos hw]
def Il{l:List (D aC)}{d:Dk}{r:Int}{pre:List Nat}(i:Nat)(hp:(im l r d pre).2=0) :
  im l r d (pre++[i])=bL (im l r d pre).1 (2+(r+1).tmod 2*55+(pre.length:Int)) (bytesOf (eE (t:=.int .u8) (bI (dN l).1) 64 i)):=Ih _ i pre d _ hp
def Vo{l:List (D aC)}{d:Dk}{r:Int}(h0:(dN l).2.isNil=true)(hp:(im l r d (iq l)).2=0)(hf:(CA l r d).2≠0):eI d r l=CA l r d:=by
 unfold eI;rw[if_neg (not_not_intro (qQ h0).2),if_neg (not_not_intro hp),if_pos hf]
def Vp{l:List (D aC)}{d:Dk}{r:Int}(h0:(dN l).2.isNil=true)(hp:(im l r d (iq l)).2=0)(hf:(CA l r d).2=0)(hh:(vW l r d).2≠0):eI d r l=vW l r d:=by
 unfold eI;rw[if_neg (not_not_intro (qQ h0).2),if_neg (not_not_intro hp),if_neg (not_not_intro hf),if_pos hh]
def E0{l:List (D aC)}{d:Dk}{r:Int}(h0:(dN l).2.isNil=true)(hp:(im l r d (iq l)).2=0)(hf:(CA l r d).2=0)(hh:(vW l r d).2=0):eI d r l=bP (vW l r d).1:=by
 unfold eI;rw[if_neg (not_not_intro (qQ h0).2),if_neg (not_not_intro hp),if_neg (not_not_intro hf),if_neg (not_not_intro hh)]
def A0{l:List (D aC)}{r:Int}{d:Dk}(hl:l.length<=100)(h:cW d 1000000):cW (im l r d (iq l)).1 1005000:=
 (Ij h (iq l)).mono (by have:=vA hl;unfold iq;rw[bk];omega)
abbrev Sh:=(Int×List (D aC)×Unit)×Dk
def qv(x:Sh)(l:List (D aC)):Sh×Int:=((if(eI x.2 x.1.1 l).2=0 then(x.1.1+1,l,())else x.1,(eI x.2 x.1.1 l).1),(eI x.2 x.1.1 l).2)
def qw(l:List (D aC))(e:D aC):Option (List (D aC)):=if 0<=eA l e.1 then some (l.set (eA l e.1).toNat e)else if l.length=3 then none else some (l++[e])
def kr(x:Sh)(e:D aC):Sh×Int:=
 if bC e≠0 then(x,bC e)else match qw x.1.2.1 e with
  |none=>(x,2)
  |some l=>qv x l
def gG(l:List (D aC))(s:aD):D aC×Bool:=if 0<=eA l s then(nth aC l (eA l s).toNat,true)else(bY aC,false)
def gJ(x:Sh)(s:aD):Sh×Int:=
 if 0<=eA x.1.2.1 s then qv x (x.1.2.1.eraseIdx (eA x.1.2.1 s).toNat)else(x,5)
def qb(l:List (D aC))(s:aD):eA l s<l.length/\-1<=eA l s:=by
 unfold eA;split
 ·rename_i i h
  obtain⟨h1,_⟩:=List.findIdx?_eq_some_iff_getElem.1 h;omega
 ·omega
def E1{x:Sh}{e:D aC}(h:bC e≠0):kr x e=(x,bC e):=by unfold kr;rw[if_pos h]
def Ln{x:Sh}{e:D aC}(h:bC e=0)(hi:0<=eA x.1.2.1 e.1):kr x e=qv x (x.1.2.1.set (eA x.1.2.1 e.1).toNat e):=by
 unfold kr qw;rw[if_neg (not_not_intro h),if_pos hi]
def Im{x:Sh}{e:D aC}(h:bC e=0)(hi:¬0<=eA x.1.2.1 e.1)(hl:(x.1.2.1.length:Int)=3):kr x e=(x,2):=by
 unfold kr qw;rw[if_neg (not_not_intro h),if_neg hi,if_pos (by omega)]
def Dy{x:Sh}{e:D aC}(h:bC e=0)(hi:¬0<=eA x.1.2.1 e.1)(hl:¬(x.1.2.1.length:Int)=3):kr x e=qv x (x.1.2.1++[e]):=by
 unfold kr qw;rw[if_neg (not_not_intro h),if_neg hi,if_neg (by omega)]
def xI{α:Type}{o:List α}{b:Bool}(q:0<o.length->b=false)(h:b=true):o=[]:=by
 cases o with
 |nil=>rfl
 |cons a t=>rw[q (by simp)]at h;cases h
def jf(l:List (D aC)):List aD:=l.map (·.1)
def zY{l:List (D aC)}{i:Nat}(h:i<l.length):jf (l.take i)++[(nth aC l i).1]=jf (l.take (i+1)):=by
 rw[ig (t:=aC) h];simp[jf]
def NB(l:List (D aC)):(jf l).length=l.length:=by simp[jf]
def Lo{l:List (D aC)}{s:aD}(h:0<=eA l s):gG l s=(nth aC l (eA l s).toNat,true):=by unfold gG;rw[if_pos h]
def Io{l:List (D aC)}{s:aD}(h:¬0<=eA l s):gG l s=(bY aC,false):=by unfold gG;rw[if_neg h]
def oZ(s:aD):¬0<=eA [] s:=fun h=>absurd (show(0:Int)<=-1 from h) (by decide)
def oQ(l:List (D aC))(e:D aC):List (D aC)×Int:=if bC e > 0 then(l,bC e)else match qw l e with
 |none=>(l,2)
 |some l'=>(l',0)
def vB(l:List (D aC))(s:aD):List (D aC):=l.filter fun e=>decide (e.1≠s)
def nN(l:List (D aC))(s:aD):List (D aC)×Int:=if(vB l s).length=l.length then(l,5)else(vB l s,0)
def NC{l:List (D aC)}{e:D aC}(h:bC e > 0):oQ l e=(l,bC e):=by unfold oQ;rw[if_pos h]
def Tm{l:List (D aC)}{e:D aC}{i:Nat}(h:¬bC e > 0)(hi:i<l.length)(hq:∀j,j<i->(nth aC l j).1≠e.1)(he:(nth aC l i).1=e.1):oQ l e=(l.set i e,0):=by
 have hf:=AY hi hq he;unfold oQ qw;rw[if_neg h,if_pos (by rw[hf];omega),hf];rfl
def Qt{l:List (D aC)}{e:D aC}(h:¬bC e > 0)(hq:∀j,j<l.length->(nth aC l j).1≠e.1)(hl:(l.length:Int)=3):oQ l e=(l,2):=by
 unfold oQ qw;rw[if_neg h,if_neg (by rw[rp hq];decide),if_pos (by omega)]
def Tn{l:List (D aC)}{e:D aC}(h:¬bC e > 0)(hq:∀j,j<l.length->(nth aC l j).1≠e.1)(hl:¬(l.length:Int)=3):oQ l e=(l++[e],0):=by
 unfold oQ qw;rw[if_neg h,if_neg (by rw[rp hq];decide),if_neg (by omega)]
def dM(c:UInt8)(s:aD):List aD:=ag [c] 1 (bm s [c]) s
def E2(sep:aD)(save:Nat):∀(k:Nat) (s:aD),∀y∈ag sep save k s,y.length<=s.length
 |0,s,y,h=>by simp[ag]at h;subst h;exact a7 _
 |k+1,s,y,h=>by
  unfold ag at h;split at h
  ·simp at h;subst h;exact a7 _
  ·rcases b6.1 h with rfl|h
   ·rw[aq];exact Nat.min_le_right _ _
   ·exact ak (E2 sep save k _ y h) (by rw[b9];omega)
def E3(c:UInt8)(s y:aD)(h:y∈dM c s):y.length<=s.length:=E2 _ _ _ _ _ h
def gB(d:Dk):Dk×Int:=
 if(d.2.2.1.length:Int)<112 then(d,8)
 else if(bL d 1 []).2≠0 then bL d 1 []
 else if(bP (bL d 1 []).1).2≠0 then bP (bL d 1 []).1
 else if(bL (bP (bL d 1 []).1).1 0 (fG 2 0)).2≠0 then bL (bP (bL d 1 []).1).1 0 (fG 2 0)
 else bP (bL (bP (bL d 1 []).1).1 0 (fG 2 0)).1
def Vq{d:Dk}(h:(d.2.2.1.length:Int)<112):gB d=(d,8):=by unfold gB;rw[if_pos h]
def Xc{d:Dk}(h:¬(d.2.2.1.length:Int)<112)(h1:(bL d 1 []).2≠0):gB d=bL d 1 []:=by unfold gB;rw[if_neg h,if_pos h1]
def Xd{d:Dk}(h:¬(d.2.2.1.length:Int)<112)(h1:(bL d 1 []).2=0)(h2:(bP (bL d 1 []).1).2≠0):gB d=bP (bL d 1 []).1:=by
 unfold gB;rw[if_neg h,if_neg (not_not_intro h1),if_pos h2]
def Xe{d:Dk}(h:¬(d.2.2.1.length:Int)<112)(h1:(bL d 1 []).2=0)(h2:(bP (bL d 1 []).1).2=0)(h3:(bL (bP (bL d 1 []).1).1 0 (fG 2 0)).2≠0):gB d=bL (bP (bL d 1 []).1).1 0 (fG 2 0):=by
 unfold gB;rw[if_neg h,if_neg (not_not_intro h1),if_neg (not_not_intro h2),if_pos h3]
def Xf{d:Dk}(h:¬(d.2.2.1.length:Int)<112)(h1:(bL d 1 []).2=0)(h2:(bP (bL d 1 []).1).2=0)(h3:(bL (bP (bL d 1 []).1).1 0 (fG 2 0)).2=0):gB d=bP (bL (bP (bL d 1 []).1).1 0 (fG 2 0)).1:=by
 unfold gB;rw[if_neg h,if_neg (not_not_intro h1),if_neg (not_not_intro h2),if_neg (not_not_intro h3)]
def rE{a b:Nat}(ha:a<2^40)(hb:b<2^40):Qk (a:Int) (b:Int)=((a ||| b:Nat):Int):=by
 have hlt:a ||| b<2^40:=a8 ha hb
 have e:∀n:Nat,bf av.bits (n:Int)=BitVec.ofNat av.bits n:=fun n=>BitVec.ofInt_natCast _ n
 unfold Qk;rw[e,e,<-BitVec.ofNat_or,BitVec.toNat_ofNat,Nat.mod_eq_of_lt (al hlt (by decide))];exact lA (by omega) (by omega)
def rF{a k:Nat}(ha:a<2^8)(hk:k<=24):Ql (a:Int) k=((a*2^k:Nat):Int):=by
 unfold Ql;have h1:2^k<=2^24:=Nat.pow_le_pow_right (by decide) hk;have h2:a*2^k<=255*2^24:=Nat.mul_le_mul (by omega) h1;rw[show((a:Nat):Int)*(2:Int)^k=((a*2^k:Nat):Int) by simp];exact lA (by omega) (by omega)
def zZ(s:aD):∃n:Nat,iP s=(n:Int)/\n<2^32:=by
 have hb:∀i,(dP s i).toNat<2^8:=fun i=>(dP s i).toNat_lt
 have h1:(dP s 1).toNat*2^8<2^32:=al (bo (hb 1) (by decide)) (by decide);have h2:(dP s 2).toNat*2^16<2^32:=al (bo (hb 2) (by decide)) (by decide);have h3:(dP s 3).toNat*2^24<2^32:=al (bo (hb 3) (by decide)) (by decide);have h0:(dP s 0).toNat<2^32:=al (hb 0) (by decide);have w:∀{n:Nat},n<2^32->n<2^40:=fun h=>al h (by decide)
 unfold iP;rw[rF (hb 1) (by decide),rF (hb 2) (by decide),rF (hb 3) (by decide),rE (w h0) (w h1)];have a1:=a8 h0 h1;rw[rE (w a1) (w h2)];have a2:=a8 a1 h2;rw[rE (w a2) (w h3)];exact⟨_,rfl,a8 a2 h3⟩
def xJ(d:Dk)(i:Int):aD:=nth .str d.2.2.1 (Int.toNat i)
def pN(d:Dk)(i:Nat):Int:=iP (ah 1 (ad 5 (xJ d i)))
def qP(d:Dk)(i:Nat):Int:=iP (ah 5 (ad 9 (xJ d i)))
def eG(d:Dk):Nat->Int×Int
 |0=>(0,0)
 |i+1=>if((dP (xJ d i) 0).toNat:Int)=83/\(eG d i).1<pN d i/\qP d i<=3520 then(pN d i,qP d i)else eG d i
def jo(d:Dk)(b:Int):Nat->aD
 |0=>[]
 |i+1=>jo d b i++xJ d (b+(i:Int))
def kf(L:List aD):List (D aC):=(L.filter fun s=>decide (s≠[])).map fun s=>(gU s).1
def Ip(L:List aD):Prop:=∃j,j<L.length/\nth .str L j≠[]/\(gU (nth .str L j)).2.isNil=false
def kT(d:Dk):Int:=2+(eG d 2).1.tmod 2*55
def dL(d:Dk):List aD:=dM 10 (ad (eG d 2).2.toNat (jo d (kT d) 55))
open Classical in
def cG(d:Dk):(Int×List (D aC))×Int:=
 if d.1.2.1=true then((0,[]),9)else if(d.2.2.1.length:Int)<112 then((0,[]),4)else if(eG d 2).1=0 then((0,[]),4)
 else if Ip (dL d)then((0,[]),4)else(((eG d 2).1,kf (dL d)),0)
def CB(d:Dk):eG d 0=(0,0):=rfl
def UH(d:Dk)(i:Nat):eG d (i+1)=if((dP (xJ d i) 0).toNat:Int)=83/\(eG d i).1<pN d i/\qP d i<=3520 then(pN d i,qP d i)else eG d i:=rfl
def UI(d:Dk)(b:Int):jo d b 0=[]:=rfl
def ND(d:Dk)(b:Int)(i:Nat):jo d b (i+1)=jo d b i++xJ d (b+(i:Int)):=rfl
def qc(d:Dk)(i:Nat):pN d i=iP (ah 1 (ad 5 (nth .str d.2.2.1 i))):=rfl
def rG(d:Dk)(i:Nat):qP d i=iP (ah 5 (ad 9 (nth .str d.2.2.1 i))):=rfl
def kB(d:Dk):kT d=2+(eG d 2).1.tmod 2*55:=rfl
def gL(d:Dk):dL d=dM 10 (ad (eG d 2).2.toNat (jo d (kT d) 55)):=rfl
def uq{d:Dk}{i:Nat}(h1:((dP (nth .str d.2.2.1 i) 0).toNat:Int)=83)(h2:(eG d i).1<pN d i)(h3:qP d i<=3520):eG d (i+1)=(pN d i,qP d i):=by rw[UH];exact if_pos ⟨h1,h2,h3⟩
def yz{d:Dk}{i:Nat}(h:¬(((dP (nth .str d.2.2.1 i) 0).toNat:Int)=83/\(eG d i).1<pN d i/\qP d i<=3520)):eG d (i+1)=eG d i:=by rw[UH];exact if_neg h
def gK(d:Dk):∀i,(0<=(eG d i).1/\(eG d i).1<4294967296)/\0<=(eG d i).2/\(eG d i).2<=3520
 |0=>by rw[CB];decide
 |i+1=>by
  by_cases h:((dP (nth .str d.2.2.1 i) 0).toNat:Int)=83/\(eG d i).1<pN d i/\qP d i<=3520
  ·rw[uq h.1 h.2.1 h.2.2]
   obtain⟨n,e,hn⟩:=zZ (ah 1 (ad 5 (nth .str d.2.2.1 i)));obtain⟨m,e2,hm⟩:=zZ (ah 5 (ad 9 (nth .str d.2.2.1 i)));have h3:=h.2.2;rw[qc,rG,e,e2];rw[rG,e2]at h3;refine⟨⟨by omega,?_⟩,by omega,h3⟩;have:(n:Int)<((2^32:Nat):Int):=Int.ofNat_lt.2 hn;simpa using this
  ·rw[yz h];exact gK d i
def sX{a:Int}(h:0<=a):0<=a.tmod 2/\a.tmod 2<=1:=by rw[ay h];omega
def kC{d:Dk}(hs:∀i,i<d.2.2.1.length->(nth .str d.2.2.1 i).length=64){b:Int}(hb:0<=b):∀n:Nat,b+(n:Int)<=d.2.2.1.length->(jo d b n).length=64*n
 |0,_=>by rw[UI];rfl
 |n+1,h=>by
  rw[ND,ab,kC hs hb n (by omega),show(xJ d (b+(n:Int))).length=64 from hs _ (by omega)];omega
def Qu{d:Dk}(h:d.1.2.1=true):cG d=((0,[]),9):=by unfold cG;rw[if_pos h]
def To{d:Dk}(h1:d.1.2.1=false)(h:(d.2.2.1.length:Int)<112):cG d=((0,[]),4):=by unfold cG;rw[if_neg (by rw[h1];decide),if_pos h]
def Qv{d:Dk}(h1:d.1.2.1=false)(h:¬(d.2.2.1.length:Int)<112)(h5:(eG d 2).1=0):cG d=((0,[]),4):=by unfold cG;rw[if_neg (by rw[h1];decide),if_neg h,if_pos h5]
def Tp{d:Dk}(h1:d.1.2.1=false)(h:¬(d.2.2.1.length:Int)<112)(h5:¬(eG d 2).1=0)(hb:Ip (dL d)):cG d=((0,[]),4):=by unfold cG;rw[if_neg (by rw[h1];decide),if_neg h,if_neg h5,if_pos hb]
def Lp{d:Dk}(h1:d.1.2.1=false)(h:¬(d.2.2.1.length:Int)<112)(h5:¬(eG d 2).1=0)(hb:¬Ip (dL d)):cG d=(((eG d 2).1,kf (dL d)),0):=by unfold cG;rw[if_neg (by rw[h1];decide),if_neg h,if_neg h5,if_neg hb]
def Qw{L:List aD}{i:Nat}(h:i<L.length)(he:nth .str L i=[]):kf (L.take (i+1))=kf (L.take i):=by
 unfold kf;rw[ig (t:=.str) h,bp,he];simp
def Qx{L:List aD}{i:Nat}(h:i<L.length)(he:nth .str L i≠[]):kf (L.take (i+1))=kf (L.take i)++[(gU (nth .str L i)).1]:=by
 unfold kf;rw[ig (t:=.str) h,bp];simp[he]
def Tq(L:List aD):(kf L).length<=L.length:=by unfold kf;rw[bj];exact List.length_filter_le _ _
def Vr{L:List aD}{i:Nat}(hi:¬i<L.length)(h:∀j,j<i->nth .str L j=[]\/(gU (nth .str L j)).2.isNil=true):¬Ip L:=by
 rintro⟨j,h1,h2,h3⟩;rcases h j (by omega)with h|h
 ·exact h2 h
 ·rw[h]at h3;cases h3
def CC(sep:aD)(save:Nat):∀(k:Nat) (s:aD),(ag sep save k s).length<=k+1
 |0,s=>by simp[ag]
 |k+1,s=>by
  unfold ag;split
  ·simp
  ·rw[ae];have:=CC sep save k (s.drop ((bq s sep).toNat+sep.length));omega
def NF(c:UInt8)(s:aD):(dM c s).length<=s.length+1:=by
 unfold dM;refine ak (CC _ _ _ _) ?_;rw[ba];have:=List.count_le_length (a:=c) (l:=s);omega
def Qy:kf []=[]:=rfl
def iR(d:Dk):Dk×Int:=cc (⟨gB d,rfl⟩:∃y,y=gB d)
def mb(d:Dk):iR d=gB d:=cd (⟨gB d,rfl⟩:∃y,y=gB d)
attribute [irreducible] eG jo kf kT dL pN qP
end Go.Mrl

namespace Go.Vg
open Go.RowKit
def Dz(t:Ty):aT:=fun args st K=>
 match args with
 |[.one (.aV n),.one a,.one b]=>match look st.aF n,sq (.int .i64) a,sq (.int .i64) b with
  |some (.aV t' xs),some i,some j=>match Ty.beq t' t with
   |true =>.and (0<=(i:Int)/\(i:Int)<(j:Int)/\(j:Int)<=xs.length)
     (K (.s (.one (.aV st.next))) (fresh (aZ (aZ st n) n) (.aV t' (xs.take (i:Int).toNat++xs.drop (j:Int).toNat))))
   |false =>.ff
  |_,_,_ =>.ff
 |_ =>.ff
def Qz(P:Program)(f:FuncId)(sz:Nat):Prop:=∀(b i j n cap:Nat) (vs:Array Value) (T:TypeId) (w:World),w.heap[b]?=some (.cells vs T (0,0))->vs.size=cap*sz->i<j->j<=n->n<=cap->n<=aL->
 (∀(k:Nat) u,k<n*sz->vs[k]?=some u->u.oneCell'=true)->
 Calls P f #[.slice (some ⟨b,0,none⟩) n cap,.int .i64 (i:Int),.int .i64 (j:Int)] w fun e w'=>e=.returned (.slice (some ⟨b,0,none⟩) (i+(n-j)) cap)/\w'.os=w.os/\w'.output=w.output/\w'.heap.size=w.heap.size/\(∀k,k≠b->w'.heap[k]?=w.heap[k]?)/\
  ∃vs':Array Value,w'.heap[b]?=some (.cells vs' T (0,0))/\vs'.size=vs.size/\∀k,k<(i+(n-j))*sz->vs'[k]?=vs[if k<i*sz then k else k+(j-i)*sz]?
def Ts{i j:Int}{n:Nat}(h0:0<=i)(hij:i<j)(hj:j<=n):∃i' j':Nat,i=(i':Int)/\j=(j':Int)/\i'<j'/\j'<=n:=
 ⟨i.toNat,j.toNat,by omega,by omega,by omega,by omega⟩
section
variable{P:Program}{X:Ext}{f:FuncId}
def NG{B:Cx}{t:Ty}(hfn:∃fn,P.funcs[f]?=some fn/\fn.body.isNone=false/\(fn.name == "runtime.NumGoroutine")=false)(H:Qz P f t.size) :
  bX P B.eT X f false (Dz t):=by
 refine⟨hfn,fun O st loc w args vs K hs g hO ha =>?_⟩;unfold Dz at hs;split at hs
 case h_2=>exact hs.elim
 rename_i n ca cb;split at hs
 case h_2=>exact hs.elim
 rename_i t' xs i j hob hi hj;split at hs
 case h_2=>exact hs.elim
 rename_i ht;have ht':=Ty.eq_of_beq ht;subst ht';obtain⟨⟨h0,hij,hjx⟩,hs⟩:=hs
 match vs,ha with
 |[v0,v1,v2],.cons a0 (.cons a1 (.cons a2 .nil))=>
 have key:=Ts h0 hij hjx;clear h0 hij hjx;obtain⟨i,j,rfl,rfl,hij,hjx⟩:=key;have hs:(K (.s (.one (.aV st.next))) (fresh (aZ (aZ st n) n) (.aV t' (xs.take i++xs.drop j)))).holds:=hs;have e1:v1=.int .i64 (i:Int):=(cQ.1 (pQ hi a1)).1;have e2:v2=.int .i64 (j:Int):=(cQ.1 (pQ hj a2)).1;subst e1 e2;have hvl:=a0.2 _ _ hob;rcases(g.obj n _ hob).2 with⟨rfl,_⟩|⟨b,cs,T,cap,hl1,gY,hheap,hsz,hfit,hbig,he⟩
 ·simp at hjx;omega
 have hv0:=hvl.trans hl1;subst hv0;have hxs:List.length xs*t'.size<=cs.size:=by rw[hsz];exact bb _ hfit
 obtain⟨olds,ho,ho1,ho3,ho4⟩:=qi (cx:=B) he hxs;refine(H b i j xs.length cap cs T w hheap hsz hij hjx hfit hbig (fun k u hk hu=>ho4 u ?_)).mono ?_
 ·refine List.mem_of_getElem? (i:=k) ?_
  rw[ho,List.getElem?_take,if_pos hk,Array.getElem?_toList];exact hu
 rintro r w' ⟨rfl,k1,k2,k3,k4,cs',k5,k6,k7⟩;have hl':(xs.take i++xs.drop j).length=i+(xs.length-j):=by rw[ab,aq,b9];omega
 obtain⟨tr,gd⟩:=rf (w':=w') (oc:=.aV t' (xs.take i++xs.drop j)) (l:=⟨.slice (some ⟨b,0,none⟩) (i+(xs.length-j)) cap,[b]⟩) g hO n n k1 k2 (Nat.le_of_eq k3.symm)
  (fun k oc' hk hl=>by
   have:k=n:=by rcases hk with h|h <;> exact h
   subst this;rw[hob]at hl;cases hl;rfl)
  (fun b' hlt hb=>k4 b' fun e'=>hb n _ (.inl rfl) hob (by rw[e',show(loc n).bs=_ from gY];simp))
  (fun b' hbm=>by
   simp at hbm;subst hbm;exact .inl ⟨n,_,.inl rfl,hob,by rw[show(loc n).bs=_ from gY];simp⟩)
 have gd:=gd (.inr ⟨b,cs',T,cap,by rw[hl'],rfl,k5,by rw[k6,hsz],by rw[hl'];omega,by rw[hl'];unfold aL at*;omega,fun k y hy=>by
  have hk:k<i+(xs.length-j):=by have:=bF hy;rw[hl']at this;exact this
  obtain⟨k',hk',hyx⟩:∃k',(k'=if k<i then k else k+(j-i))/\xs[k']?=some y:=by
   refine⟨_,rfl,?_⟩;rw[List.getElem?_append,aq]at hy;by_cases h:k<i
   ·rw[if_pos (by omega),List.getElem?_take,if_pos h]at hy
    rw[if_pos h];exact hy
   ·rw[if_neg (by omega),List.getElem?_drop]at hy
    rw[if_neg h];rw[show j+(k-min i xs.length)=k+(j-i) by omega]at hy;exact hy
  obtain⟨us,r1,r2⟩:=he k' y hyx;refine⟨us,r1.frame tr.cell,fun q u hq =>?_⟩;have hql:q<t'.size:=by have:=bF hq;rw[r1.length]at this;exact this
  have hm:(k+1)*t'.size<=(i+(xs.length-j))*t'.size:=bb _ hk;rw[br,Nat.one_mul]at hm;rw[k7 _ (by omega)];have:=r2 q u hq;by_cases h:k<i
  ·rw[if_pos h]at hk'
   subst hk';have hm2:(k'+1)*t'.size<=i*t'.size:=bb _ h;rw[br,Nat.one_mul]at hm2;rw[if_pos (by omega)];exact this
  ·rw[if_neg h]at hk'
   have hm2:i*t'.size<=k*t'.size:=bb _ (by omega);rw[if_neg (by omega)];rw[hk',br]at this;rw[show k*t'.size+q+(j-i)*t'.size=k*t'.size+(j-i)*t'.size+q by omega];exact this⟩)
 exact⟨_,_,_,_,rfl,hs,rfl,(fun hq=>by cases hq),gd,tr,⟨by simp[aA,fresh,aZ],fun t xs hy=>by simp[aA,bU]⟩⟩
end
end Go.Vg

namespace Go.Mrl
open Go.Vg
def nn{n:Int}{k:Nat}(h0:0<=n)(h:n<((10^(k+1):Nat):Int)):(Lib.itoa n).length<=k+1:=by
 unfold Lib.itoa;rw[if_neg (by omega)];exact oE k n.toNat (by omega)
def QA{n:Int}(h:il (-2147483648) 2147483647 n):(Lib.itoa n).length<=11:=by
 have h1:=h.1;have h2:=h.2;by_cases hn:n<0
 ·rw[Pu hn,ab,bt]
  have:=nn (n:=-n) (k:=9) (by omega) (by omega);omega
 ·have:=nn (n:=n) (k:=9) (by omega) (by omega);omega
def DA{α:Type}{f:α->aD}{m:Nat}:∀{l:List α},(∀x∈l,(f x).length<=m)->(l.flatMap f).length<=m*l.length
 |[],_=>by simp
 |a :: r,h=>by
  have h1:=h a (by simp);have h2:=DA (l:=r) fun x hx=>h x (by simp[hx])
  rw[List.flatMap_cons,ab,ae,Nat.mul_add,Nat.mul_one];omega
def Iq{p:D aG}(h1:Nm p.1)(h2:il 1 1000000 p.2.1)(h3:il 0 255 p.2.2.1):(nh p).length<=21:=by
 have a:=h1.2.1;have b:=nn (n:=p.2.1) (k:=6) (by have:=h2.1;omega) (by have:=h2.2;omega);have c:=nn (n:=p.2.2.1) (k:=2) (by have:=h3.1;omega) (by have:=h3.2;omega);simp[nh];omega
def Ir{p:D aR}(h1:il 0 5 p.1)(h2:il 0 39 p.2.1)(h3:il (-2147483648) 2147483647 p.2.2.1):(ni p).length<=17:=by
 have a:=nn (n:=p.1) (k:=0) (by have:=h1.1;omega) (by have:=h1.2;omega);have b:=nn (n:=p.2.1) (k:=1) (by have:=h2.1;omega) (by have:=h2.2;omega);have c:=QA h3;simp[ni];omega
def J9{e:D aC}(hf:bC e=0):(fO e).length<=752:=by
 have h:=lF hf;have a1:=h.nm.2.1;have a2:=nn (n:=(e.2.1.length:Int)) (k:=0) (by omega) (by have:=h.p6;omega);have a3:=nn (n:=(e.2.2.1.length:Int)) (k:=1) (by omega) (by have:=h.Cp;omega);have hh:(vq e).length<=13:=by simp[vq];omega
 have b:=DA (f:=nh) (m:=21) (l:=e.2.1) fun x hx=>by
  obtain⟨j,hj,rfl⟩:=hH (t:=aG) hx;obtain⟨k1,k2,k3⟩:=h.parts j hj;exact Iq k1 k2 k3
 have c:=DA (f:=ni) (m:=17) (l:=e.2.2.1) fun x hx=>by
  obtain⟨j,hj,rfl⟩:=hH (t:=aR) hx;obtain⟨k1,k2,k3⟩:=h.HU j hj;exact Ir k1 k2 k3
 have d1:=h.p6;have d2:=h.Cp;unfold fO rm js jH;rw[cf,cf,ab,ab,ab,bt];omega
def vC:∀{l:List (D aC)},(∀e∈l,bC e=0)->(fH l).length<=752*l.length
 |[],_=>by simp[fH]
 |e :: r,h=>by
  have h1:=J9 (h e (by simp));have h2:=vC (l:=r) fun x hx=>h x (by simp[hx])
  have h3:fH (e :: r)=fO e++fH r:=rfl;rw[h3,ab,ae];omega
def E4{c:UInt8}:∀{l r:aD},c∉l->bq (l++c :: r) [c]=(l.length:Int)
 |[],r,_=>xm
 |b :: l,r,h=>by
  have hb:b≠c:=fun e=>h (by rw[e];simp)
  rw[bh,xl hb,E4 (l:=l) (r:=r) fun k=>h (List.mem_cons_of_mem _ k),ae];rw[if_neg (by simp)];omega
def Ka{c:UInt8}{l r:aD}(h:c∉l):dM c (l++[c]++r)=(l++[c]) :: dM c r:=by
 have hc:bm (l++[c]++r) [c]=bm r [c]+1:=by
  rw[ba,ba,cg,List.count_append,List.count_eq_zero_of_not_mem h];simp
 have hi:bq (l++[c]++r) [c]=(l.length:Int):=by rw[cg];exact E4 h
 unfold dM;rw[hc,ag,hi,if_neg (by simp)];have e1:((l.length:Int)).toNat+1=(l++[c]).length:=by simp
 have e2:((l.length:Int)).toNat+ [c].length=(l++[c]).length:=by simp
 rw[e2,List.drop_left,e1,List.take_left]
def NH(c:UInt8):dM c []=[[]]:=by
 unfold dM;rw[ba];rfl
def CE:∀{l:List (D aC)},(∀e∈l,bC e=0)->dM 10 (fH l)=l.map fO++[[]]
 |[],_=>NH 10
 |e :: r,h=>by
  have h3:fH (e :: r)=rm e++[10]++fH r:=rfl;rw[h3,Ka (Nr (lF (h e (by simp)))),CE (l:=r) fun x hx=>h x (by simp[hx])];rfl
def Tt(e:D aC):fO e≠[]:=by unfold fO;simp
def CF{e:D aC}(h:bC e=0):gU (fO e)=(e,.nil):=by unfold gU;rw[Lj h rfl];rfl
def Tu{l:List (D aC)}(h:∀e∈l,bC e=0):kf (l.map fO++[[]])=l:=by
 unfold kf;rw[bp,ch.2 fun s hs=>by
  obtain⟨e,_,rfl⟩:=ao.1 hs;exact decide_eq_true (Tt e)]
 simp only[bu,List.filter_nil,ne_eq,not_true_eq_false,decide_false,Bool.false_eq_true,if_false,List.append_nil,List.map_map];have:l.map ((fun s=>(gU s).1) ∘ fO)=l.map id:=List.map_congr_left fun e he=>by simp only[Function.comp];rw[CF (h e he)];rfl
 rw[this,List.map_id]
def Tv{l:List (D aC)}(h:∀e∈l,bC e=0):¬Ip (l.map fO++[[]]):=by
 rintro⟨j,h1,h2,h3⟩;have hm:nth .str (l.map fO++[[]]) j∈l.map fO++[[]]:=eJ (t:=.str) h1;rcases bw.1 hm with hm|hm
 ·obtain⟨e,he,k⟩:=ao.1 hm
  rw[<-k,CF (h e he)]at h3;cases h3
 ·exact h2 (bc.1 hm)
def QB(n:Int):vz n=n % 256:=by
 unfold vz;simp[au,IntKind.signed,IntKind.bits]
def sY{n:Nat}{m:Int}{k:Nat}(h:m=((n / 2^k:Nat):Int)):(UInt8.ofNat (Int.toNat (vz m))).toNat=n / 2^k % 256:=by
 rw[QB,h,show((n / 2^k:Nat):Int) % 256=((n / 2^k % 256:Nat):Int) by omega,aj];simp[UInt8.toNat_ofNat']
def A4(n k:Nat):((n:Nat):Int).fdiv (2^k)=((n / 2^k:Nat):Int):=by
 rw[Int.fdiv_eq_ediv_of_nonneg _ (Int.le_of_lt (Int.pow_pos (by decide)))];simp
def Is{a b k:Nat}(h:a<2^k):a ||| b*2^k=a+b*2^k:=by
 have:=Nat.two_pow_add_eq_or_of_lt h b;rw[Nat.mul_comm,Nat.or_comm];omega
def E5{n:Nat}(h:n<2^32):iP (jV (n:Int))=(n:Int):=by
 have b0:(dP (jV (n:Int)) 0).toNat=n / 2^0 % 256:=sY (n:=n) (k:=0) (by simp);have b1:(dP (jV (n:Int)) 1).toNat=n / 2^8 % 256:=sY (A4 n 8);have b2:(dP (jV (n:Int)) 2).toNat=n / 2^16 % 256:=sY (A4 n 16);have b3:(dP (jV (n:Int)) 3).toNat=n / 2^24 % 256:=sY (A4 n 24);have l:∀k,n / 2^k % 256<2^8:=fun k=>Nat.mod_lt _ (by decide)
 unfold iP;rw[b0,b1,b2,b3,rF (l 8) (by decide),rF (l 16) (by decide),rF (l 24) (by decide)];have l0:=l 0;have l1:=l 8;have l2:=l 16;have l3:=l 24;generalize hb0:n / 2^0 % 256=x0 at*;generalize hb1:n / 2^8 % 256=x1 at*;generalize hb2:n / 2^16 % 256=x2 at*;generalize hb3:n / 2^24 % 256=x3 at*;rw[rE (by omega) (by omega),Is (k:=8) (by omega),rE (by omega) (by omega),Is (k:=16) (by omega),rE (by omega) (by omega),Is (k:=24) (by omega)];congr 1;omega
structure pJ (d:Dk):Prop where
 down:d.1.2.1=false
 lI:(d.1.1:Int)= -1
 len:112<=d.2.2.1.length
 sec:∀i,i<d.2.2.1.length->(nth .str d.2.2.1 i).length=64
 NI:d.2.1.length=d.2.2.1.length
def It{s:aD}(h:s.length<=64):(eH s).length=64:=by unfold eH;simp;omega
def xK{d:Dk}(g:pJ d):stepOf d=(d,0):=by
 unfold stepOf;rw[if_neg (by rw[g.down];decide),if_neg (by rw[g.lI];decide)];have hf:=g.lI;have hd:=g.down;obtain⟨⟨f,dn,u⟩,rest⟩:=d;simp only at hf hd;subst hd;rw[if_neg (by show ¬0<f;omega)]
def rr{d:Dk}(g:pJ d){a:Int}{s:aD}(h0:0<=a)(h1:a<d.2.2.1.length)(hs:s.length<=64) :
  (bL d a s).2=0/\(bL d a s).1.2.2.1=d.2.2.1.set a.toNat (eH s)/\pJ (bL d a s).1:=by
 have e:bL d a s=((d.1,d.2.1,d.2.2.1.set a.toNat (eH s),d.2.2.2.1++[(a,eH s,())],()),0):=by
  unfold bL;rw[if_neg (by omega),xK g,if_pos rfl]
 rw[e];refine⟨rfl,rfl,g.down,g.lI,by rw[af];exact g.len,fun i hi =>?_,by rw[af];exact g.NI⟩;show(nth .str (d.2.2.1.set a.toNat (eH s)) i).length=64;have hi:i<(d.2.2.1.set a.toNat (eH s)).length:=hi;rw[af]at hi;by_cases c:a.toNat=i
 ·subst c;rw[nG (t:=.str) hi];exact It hs
 ·rw[nF (t:=.str) c];exact g.sec i hi
def ru{d:Dk}(g:pJ d):(bP d).2=0/\(bP d).1.2.2.1=d.2.2.1/\pJ (bP d).1:=by
 have e:bP d=((d.1,d.2.2.1,d.2.2.1,[],()),0):=by
  unfold bP;rw[xK g,if_pos rfl]
 rw[e];exact⟨rfl,rfl,g.down,g.lI,g.len,g.sec,rfl⟩
def Iu(bs:List Int):∀(pre:List Nat) {d:Dk} {s:Int},pJ d->0<=s->s+(pre.length:Int)<=d.2.2.1.length->
  (mq bs d s pre).2=0/\pJ (mq bs d s pre).1/\(mq bs d s pre).1.2.2.1.length=d.2.2.1.length/\
  (∀j,j<pre.length->nth .str (mq bs d s pre).1.2.2.1 (s.toNat+j)=eH (bytesOf (eE (t:=.int .u8) bs 64 (pre.getD j 0))))/\
  (∀i,i<s.toNat\/s.toNat+pre.length<=i->nth .str (mq bs d s pre).1.2.2.1 i=nth .str d.2.2.1 i)
 |[],d,s,g,h0,h1=>⟨rfl,g,rfl,fun j hj=>absurd hj (cj _),fun i _=>rfl⟩
 |p :: r,d,s,g,h0,h1=>by
  have hc:(bytesOf (eE (t:=.int .u8) bs 64 p)).length<=64:=by rw[bytesOf,bj,rn];exact Nat.min_le_left _ _
  rw[ae]at h1;obtain⟨w1,w2,w3⟩:=rr g (a:=s) h0 (by omega) hc;have hl:(bL d s (bytesOf (eE (t:=.int .u8) bs 64 p))).1.2.2.1.length=d.2.2.1.length:=by rw[w2,af]
  obtain⟨k1,k2,k3,k4,k5⟩:=Iu bs r (s:=s+1) w3 (by omega) (by rw[hl];omega);have e:mq bs d s (p :: r)=mq bs (bL d s (bytesOf (eE (t:=.int .u8) bs 64 p))).1 (s+1) r:=by
   rw[mq,if_pos w1]
  rw[e];have hs1:(s+1).toNat=s.toNat+1:=by omega
  refine⟨k1,k2,k3.trans hl,fun j hj =>?_,fun i hi =>?_⟩
  ·cases j with
   |zero=>
    rw[Nat.add_zero,k5 s.toNat (.inl (by omega)),w2,nG (t:=.str) (by omega)];rfl
   |succ j=>
    have:=k4 j (by simpa using hj);rw[hs1]at this;rw[show s.toNat+(j+1)=s.toNat+1+j by omega,this];rfl
  ·rw[ae]at hi
   rw[k5 i (by omega),w2,nF (t:=.str) (by omega)]
def Lq{d:Dk}(hs:∀i,i<d.2.2.1.length->(nth .str d.2.2.1 i).length=64){b:Int}(hb:0<=b):∀(n:Nat),b+(n:Int)<=d.2.2.1.length->∀i,i<64*n->(jo d b n)[i]?=(nth .str d.2.2.1 (b.toNat+i / 64))[i % 64]?
 |0,_,i,hi=>by omega
 |n+1,h,i,hi=>by
  have hl:=kC hs hb n (by omega);rw[ND];by_cases c:i<64*n
  ·rw[List.getElem?_append_left (by rw[hl];exact c)]
   exact Lq hs hb n (by omega) i c
  ·rw[List.getElem?_append_right (by rw[hl];omega),hl]
   have e1:i / 64=n:=by omega
   have e2:i-64*n=i % 64:=by omega
   rw[e1,e2,show xJ d (b+(n:Int))=nth .str d.2.2.1 (b.toNat+n)from congrArg (nth .str d.2.2.1) (by omega)]
def QC(t:aD)(j r:Nat)(hr:r<64):(bytesOf (eE (t:=.int .u8) (bI t) 64 j))[r]?=t[j*64+r]?:=by
 have e:bytesOf (eE (t:=.int .u8) (bI t) 64 j)=(t.drop (j*64)).take 64:=by
  have h:∀l:aD,bytesOf (bI l)=l:=u9
  have h2:eE (t:=.int .u8) (bI t) 64 j=bI ((t.drop (j*64)).take 64):=by simp[eE,bI,List.map_take,List.map_drop]
  rw[h2,h]
 rw[e,List.getElem?_take,if_pos hr,List.getElem?_drop]
def Vs{d:Dk}(hs:∀i,i<d.2.2.1.length->(nth .str d.2.2.1 i).length=64){b:Int}(hb:0<=b)(hb2:b+55<=d.2.2.1.length){t:aD}(ht:t.length<=3520)
  (hw:∀j,j<fI t.length 64->nth .str d.2.2.1 (b.toNat+j)=eH (bytesOf (eE (t:=.int .u8) (bI t) 64 j))):(jo d b 55).take t.length=t:=by
 apply ck;intro i;by_cases c:i<t.length
 ·rw[List.getElem?_take,if_pos c,Lq hs hb 55 hb2 i (by omega)]
  have hj:i / 64<fI t.length 64:=by unfold fI;omega
  rw[hw _ hj];unfold eH;have hg:=QC t (i / 64) (i % 64) (Nat.mod_lt _ (by decide));have hi:i / 64*64+i % 64=i:=by omega
  rw[hi]at hg;have hlt:i % 64<(bytesOf (eE (t:=.int .u8) (bI t) 64 (i / 64))).length:=by
   apply Classical.byContradiction;intro hn;rw[List.getElem?_eq_none (by omega)]at hg;rw[List.getElem?_eq_getElem c]at hg;cases hg
  rw[List.getElem?_append_left hlt,hg]
 ·rw[List.getElem?_take,if_neg c,List.getElem?_eq_none (by omega)]
def QD(a b:Int)(s:aD):ah 1 (ad 5 (fG a b++s))=jV a/\ah 5 (ad 9 (fG a b++s))=jV b/\(dP (fG a b++s) 0).toNat=83:=by
 refine⟨rfl,rfl,rfl⟩
def Iv{d:Dk}{p:Nat}{a b:Nat}(h:nth .str d.2.2.1 p=eH (fG a b))(ha:a<2^32)(hb:b<2^32) :
  ((dP (nth .str d.2.2.1 p) 0).toNat:Int)=83/\pN d p=(a:Int)/\qP d p=(b:Int):=by
 obtain⟨h1,h2,h3⟩:=QD a b (bx (64-(fG a b).length) 0);rw[qc,rG,h];unfold eH;exact⟨by rw[h3];rfl,by rw[h1];exact E5 ha,by rw[h2];exact E5 hb⟩
structure jk (d:Dk) (r:Nat) (l:List (D aC)):Prop where
 fV:pJ d
 quiet:d.2.2.2.1=[]
 tC:∀e∈l,bC e=0
 mm:l.length<=3
 r2:2<=r
 rM:r<=1000000000
 head:nth .str d.2.2.1 (r % 2)=eH (fG r (fH l).length)
 other:((dP (nth .str d.2.2.1 (1-r % 2)) 0).toNat:Int)≠83\/pN d (1-r % 2)<(r:Int)
 text:(jo d (2+((r % 2:Nat):Int)*55) 55).take (fH l).length=fH l
def xL:∀{l:List (D aC)},(∀e∈l,bC e=0)->lH l=0
 |[],_=>rfl
 |e :: r,h=>by unfold lH;rw[if_neg (not_not_intro (h e (by simp)))];exact xL fun x hx=>h x (by simp[hx])
def jk.small{d:Dk}{r:Nat}{l:List (D aC)}(h:jk d r l):(fH l).length<=2256:=by
 have:=vC h.tC;have:=h.mm;omega
def jk.Xm{d:Dk}{r:Nat}{l:List (D aC)}(h:jk d r l):eG d 2=((r:Int),((fH l).length:Int)):=by
 have hr:=h.r2;have hM:=h.rM;have hs:=h.small;obtain⟨k1,k2,k3⟩:=Iv h.head (by omega) (by omega);have ho:=h.other;rcases Nat.mod_two_eq_zero_or_one r with e|e
 ·rw[e]at k1 k2 k3 ho
  have h1:eG d 1=((r:Int),((fH l).length:Int)):=by
   rw[uq k1 (by rw[CB,k2];show(0:Int)<r;omega) (by rw[k3];omega),k2,k3]
  rw[yz (i:=1) fun hh =>?_,h1];rcases ho with ho|ho
  ·exact ho hh.1
  ·have h2:=hh.2.1
   rw[h1]at h2;have h2:(r:Int)<pN d 1:=h2;have ho:pN d 1<(r:Int):=ho;omega
 ·rw[e]at k1 k2 k3 ho
  have h1:(eG d 1).1<(r:Int):=by
   by_cases c:((dP (nth .str d.2.2.1 0) 0).toNat:Int)=83/\(eG d 0).1<pN d 0/\qP d 0<=3520
   ·rw[uq c.1 c.2.1 c.2.2]
    rcases ho with ho|ho
    ·exact absurd c.1 ho
    ·exact ho
   ·rw[yz c,CB];show(0:Int)<r;omega
  rw[uq (i:=1) k1 (by rw[k2];exact h1) (by rw[k3];omega),k2,k3]
def jk.lines{d:Dk}{r:Nat}{l:List (D aC)}(h:jk d r l):dL d=l.map fO++[[]]:=by
 rw[gL,kB,h.Xm];have e:((r:Int)).tmod 2=((r % 2:Nat):Int):=by rw[ay (by omega)];omega
 simp only[e,aj];rw[h.text,CE h.tC]
def jk.opens{d:Dk}{r:Nat}{l:List (D aC)}(h:jk d r l):cG d=(((r:Int),l),0):=by
 have h5:=h.Xm;rw[Lp h.fV.down (by have:=h.fV.len;omega) (by rw[h5];have:=h.r2;show ¬(r:Int)=0;omega) (by rw[h.lines];exact Tv h.tC),h.lines,Tu h.tC,h5]
def NJ{l:List (D aC)}(h:∀e∈l,bC e=0):(dN l).1=fH l:=by unfold dN;rw[if_neg (not_not_intro (xL h))]
def z1{d:Dk}(g:pJ d):(bP d).1.2.2.2.1=[]:=by
 have e:bP d=((d.1,d.2.2.1,d.2.2.1,[],()),0):=by unfold bP;rw[xK g,if_pos rfl]
 rw[e]
def Vt{d:Dk}{r:Nat}{l l':List (D aC)}(h:jk d r l)(hf:∀e∈l',bC e=0)(hn:l'.length<=3)(hr:r+1<=1000000000) :
  (eI d r l').2=0/\jk (eI d r l').1 (r+1) l':=by
 have hb:=xL hf;have ht:=NJ hf;have hs:(fH l').length<=2256:=by have:=vC hf;omega
 have hlen:=h.fV.len;obtain⟨p,hp,hpd⟩:∃p:Nat,p<=1/\p=(r+1) % 2:=⟨_,by omega,rfl⟩
 have hm:((r:Int)+1).tmod 2=(p:Int):=by rw[ay (by omega)];omega
 have hq:r % 2=1-p:=by omega
 have hN:(iq l').length=fI (fH l').length 64:=by unfold iq;rw[bk,ht,zE]
 have hN2:fI (fH l').length 64<=36:=by unfold fI;omega
 obtain⟨a1,a2,a3,a4,a5⟩:=Iu (bI (fH l')) (iq l') (s:=2+(p:Int)*55) h.fV (by omega) (by rw[hN];omega);have ew:im l' r d (iq l')=mq (bI (fH l')) d (2+(p:Int)*55) (iq l'):=by unfold im;rw[ht,hm]
 rw[<-ew]at a1 a2 a3 a4 a5;obtain⟨b1,b2,b3⟩:=ru a2;have ef:CA l' r d=bP (im l' r d (iq l')).1:=rfl;rw[<-ef]at b1 b2 b3;obtain⟨c1,c2,c3⟩:=rr b3 (a:=(p:Int)) (s:=fG ((r:Int)+1) (fH l').length) (by omega) (by rw[b2,a3];omega) (by rw[EX];decide);have eh:vW l' r d=bL (CA l' r d).1 (p:Int) (fG ((r:Int)+1) (fH l').length):=by unfold vW;rw[ht,hm]
 rw[<-eh]at c1 c2 c3;obtain⟨e1,e2,e3⟩:=ru c3;have ek:eI d r l'=bP (vW l' r d).1:=by
  unfold eI;rw[if_neg (not_not_intro hb),if_neg (not_not_intro a1),if_neg (not_not_intro b1),if_neg (not_not_intro c1)]
 rw[ek];have hsec:(bP (vW l' r d).1).1.2.2.1=(im l' r d (iq l')).1.2.2.1.set p (eH (fG ((r:Int)+1) (fH l').length)):=by
  rw[e2,c2,b2,aj]
 have hpl:p<(im l' r d (iq l')).1.2.2.1.length:=by rw[a3];omega
 have htn:(2+(p:Int)*55).toNat=2+p*55:=by omega
 rw[htn]at a4 a5;refine⟨e1,{fV:=e3,quiet:=z1 c3,tC:=hf,mm:=hn,r2:=by have:=h.r2;omega,rM:=hr,head:=?_,other:=?_,text:=?_}⟩
 ·rw[<-hpd,hsec,nG (t:=.str) hpl];rfl
 ·rw[<-hpd]
  have hk:nth .str (bP (vW l' r d).1).1.2.2.1 (1-p)=nth .str d.2.2.1 (1-p):=by
   rw[hsec,nF (t:=.str) (by omega),a5 _ (.inl (by omega))]
  have hh:=h.head;rw[hq]at hh;have hM:=h.rM;have hsm:=h.small;obtain⟨k1,k2,k3⟩:=Iv hh (by omega) (by omega);right;rw[qc,hk,<-qc,k2];omega
 ·rw[<-hpd]
  refine Vs (b:=2+(p:Int)*55) (fun i hi=>e3.sec i hi) (by omega) (by rw[hsec,af,a3];omega) (by omega) fun j hj =>?_
  rw[htn,hsec,nF (t:=.str) (by omega),a4 j (by rw[hN];exact hj)];unfold iq;rw[ht,zE,List.getD_eq_getElem?_getD,List.getElem?_range hj];rfl
def sf{n:Int}(h:112<=n):pJ (qX n) where
 down:=rfl
 lI:=rfl
 len:=by show 112<=(bx n.toNat (eH [])).length;rw[List.length_replicate];omega
 sec:=fun i hi=>by
  have:i<(bx n.toNat (eH [])).length:=hi;rw[show nth .str (qX n).2.2.1 i=eH []from List.eq_of_mem_replicate (eJ (t:=.str) this)];exact It (by decide)
 NI:=rfl
def qR{d:Dk}(g:pJ d):(iR d).2=0/\jk (iR d).1 2 []:=by
 rw[mb];have hlen:=g.len;obtain⟨a1,a2,a3⟩:=rr g (a:=1) (s:=[]) (by omega) (by omega) (by decide);obtain⟨b1,b2,b3⟩:=ru a3;obtain⟨c1,c2,c3⟩:=rr b3 (a:=0) (s:=fG 2 0) (by omega) (by rw[b2,a2,af];omega) (by rw[EX];decide);obtain⟨e1,e2,e3⟩:=ru c3;have ek:gB d=bP (bL (bP (bL d 1 []).1).1 0 (fG 2 0)).1:=by
  unfold gB;rw[if_neg (by omega),if_neg (not_not_intro a1),if_neg (not_not_intro b1),if_neg (not_not_intro c1)]
 rw[ek];have hsec:(bP (bL (bP (bL d 1 []).1).1 0 (fG 2 0)).1).1.2.2.1=(d.2.2.1.set 1 (eH [])).set 0 (eH (fG 2 0)):=by
  rw[e2,c2,b2,a2];rfl
 refine⟨e1,{fV:=e3,quiet:=z1 c3,tC:=fun e he=>absurd he (by simp),mm:=by simp,r2:=a7 _,rM:=by decide,head:=?_,other:=.inl ?_,text:=rfl}⟩
 ·rw[hsec];exact nG (t:=.str) (by rw[af];omega)
 ·rw[hsec]
  show((dP (nth .str ((d.2.2.1.set 1 (eH [])).set 0 (eH (fG 2 0))) 1) 0).toNat:Int)≠83;rw[nF (t:=.str) (by omega),nG (t:=.str) (by omega)];decide
structure eK (x:Sh) (m:List (D aC)) (k:Nat):Prop where
 list:x.1.2.1=m
 names:(m.map (·.1)).Nodup
 DB:∃r:Nat,(x.1.1:Int)=(r:Int)/\r<=2+k/\jk x.2 r m
def vD{x:Sh}{m l:List (D aC)}{k:Nat}(h:eK x m k)(hk:k<=1000)(hf:∀e∈l,bC e=0)(hl:l.length<=3)(hn:(l.map (·.1)).Nodup):(qv x l).2=0/\eK (qv x l).1 l (k+1):=by
 obtain⟨r,h1,h2,h3⟩:=h.DB;obtain⟨k1,k2⟩:=Vt h3 hf hl (by omega);unfold qv;rw[show(x.1.1:Int)=(r:Int)from h1,if_pos k1];exact⟨k1,rfl,hn,r+1,rfl,by omega,k2⟩
def eK.next{x:Sh}{m:List (D aC)}{k:Nat}(h:eK x m k):eK x m (k+1):=⟨h.list,h.names,let⟨r,h1,h2,h3⟩:=h.DB;⟨r,h1,by omega,h3⟩⟩
def QF{m:List (D aC)}{e:D aC}{i:Nat}(hi:i<m.length)(he:(nth aC m i).1=e.1):(m.set i e).map (·.1)=m.map (·.1):=by
 apply ck;intro j;rw[List.getElem?_map,List.getElem?_map,List.getElem?_set];by_cases c:i=j
 ·subst c
  rw[if_pos rfl,if_pos hi];have:=pq (t:=aC) hi;rw[this];simp[he]
 ·rw[if_neg c]
def Tw{p:Nat->Prop}(h:∃i,p i):∃i,(∀j,j<i->¬p j)/\p i:=by
 obtain⟨i,hi⟩:=h;induction i using Nat.strongRecOn with
 |ind i ih=>
  by_cases c:∃j,j<i/\p j
  ·obtain⟨j,h1,h2⟩:=c;exact ih j h1 h2
  ·exact⟨i,fun j hj hp=>c ⟨j,hj,hp⟩,hi⟩
def yA(m:List (D aC))(s:aD):(∃i,i<m.length/\(∀j,j<i->(nth aC m j).1≠s)/\(nth aC m i).1=s/\eA m s=(i:Int))\/((∀j,j<m.length->(nth aC m j).1≠s)/\eA m s= -1):=by
 by_cases h:∃i,i<m.length/\(nth aC m i).1=s
 ·left
  obtain⟨i,h0,h1,h2⟩:=Tw h;exact⟨i,h1,fun j hj e=>h0 j hj ⟨by omega,e⟩,h2,AY h1 (fun j hj e=>h0 j hj ⟨by omega,e⟩) h2⟩
 ·right
  have h':∀j,j<m.length->(nth aC m j).1≠s:=fun j hj e=>h ⟨j,hj,e⟩
  exact⟨h',rp h'⟩
def Tx{m:List (D aC)}{e:D aC}{i:Nat}(h:∀x∈m,bC x=0)(he:bC e=0):∀x∈m.set i e,bC x=0:=fun x hx=>by
 rcases cm hx with h1|h1
 ·exact h x h1
 ·exact h1▸he
def Iw{m:List (D aC)}{s:aD}(h:∀j,j<m.length->(nth aC m j).1≠s):s∉m.map (·.1):=fun hm=>by
 obtain⟨e,he,rfl⟩:=ao.1 hm;obtain⟨j,hj,rfl⟩:=hH (t:=aC) he;exact h j hj rfl
def Ix{x:Sh}{m:List (D aC)}{k:Nat}(h:eK x m k)(hk:k<=1000)(e:D aC):(kr x e).2=(oQ m e).2/\eK (kr x e).1 (oQ m e).1 (k+1):=by
 obtain⟨r,h1,h2,h3⟩:=h.DB;have hl:=h.list;by_cases hf:bC e=0
 ·rcases yA m e.1 with⟨i,i1,i2,i3,i4⟩|⟨j1,j2⟩
  ·rw[Ln hf (by rw[hl,i4];omega),hl,i4,Tm (by omega) i1 i2 i3,aj]
   exact vD h hk (Tx h3.tC hf) (by rw[af];exact h3.mm) (by rw[QF i1 i3];exact h.names)
  ·by_cases c:(m.length:Int)=3
   ·rw[Im hf (by rw[hl,j2];omega) (by rw[hl];exact c),Qt (by omega) j1 c]
    exact⟨rfl,h.next⟩
   ·rw[Dy hf (by rw[hl,j2];omega) (by rw[hl];exact c),hl,Tn (by omega) j1 c]
    refine vD h hk (fun y hy =>?_) (by rw[ab,bt];have:=h3.mm;omega) ?_
    ·rcases bw.1 hy with hy|hy
     ·exact h3.tC y hy
     ·rw[bc.1 hy];exact hf
    ·rw[List.map_append,List.nodup_append]
     refine⟨h.names,by simp,fun a ha b hb hab =>?_⟩;rw[List.map_singleton,bc]at hb;exact Iw j1 (by rw[<-hb,<-hab];exact ha)
 ·have:=vS e
  rw[E1 hf,NC (by omega)];exact⟨rfl,h.next⟩
def CG{m:List (D aC)}{s:aD}(h:s∉m.map (·.1)):vB m s=m:=by
 unfold vB;exact ch.2 fun e he=>decide_eq_true fun hh=>h (ao.2 ⟨e,he,hh⟩)
def A5:∀{m:List (D aC)} {s:aD} {i:Nat},(m.map (·.1)).Nodup->i<m.length->(nth aC m i).1=s->vB m s=m.eraseIdx i
 |[],_,_,_,h,_=>absurd h (cj _)
 |e :: r,s,0,hn,_,he=>by
  have he:e.1=s:=he;rw[az,bz]at hn;have h2:=CG (m:=r) (s:=s) (by rw[<-he];exact hn.1);unfold vB at*;rw[bu,if_neg (by simp[he]),h2];rfl
 |e :: r,s,i+1,hn,hi,he=>by
  have he:(nth aC r i).1=s:=he;rw[az,bz]at hn;have hi:i<r.length:=by simpa using hi
  have h2:=A5 (m:=r) (s:=s) (i:=i) hn.2 hi he;have hne:e.1≠s:=fun hh=>hn.1 (by rw[hh,<-he];exact ao.2 ⟨_,eJ (t:=aC) hi,rfl⟩)
  unfold vB at*;rw[bu,if_pos (decide_eq_true hne),h2];rfl
def E6{x:Sh}{m:List (D aC)}{k:Nat}(h:eK x m k)(hk:k<=1000)(s:aD):(gJ x s).2=(nN m s).2/\eK (gJ x s).1 (nN m s).1 (k+1):=by
 obtain⟨r,h1,h2,h3⟩:=h.DB;have hl:=h.list;rcases yA m s with⟨i,i1,i2,i3,i4⟩|⟨j1,j2⟩
 ·have e:=A5 h.names i1 i3
  have el:(m.eraseIdx i).length=m.length-1:=by rw[cn,if_pos i1]
  have ed:nN m s=(m.eraseIdx i,0):=by unfold nN;rw[if_neg (by rw[e,el];omega),e]
  unfold gJ;rw[if_pos (by rw[hl,i4];omega),hl,i4,ed,aj];exact vD h hk (fun y hy=>h3.tC y (List.mem_of_mem_eraseIdx hy)) (by rw[el];have:=h3.mm;omega) (h.names.sublist ((List.eraseIdx_sublist m i).map _))
 ·have e:=CG (Iw j1)
  have ed:nN m s=(m,5):=by unfold nN;rw[if_pos (by rw[e]),]
  unfold gJ;rw[if_neg (by rw[hl,j2];omega),ed];exact⟨rfl,h.next⟩
def jl:Sh:=((2,[],()),(iR (qX 112)).1)
def jB:eK jl [] 0:=⟨rfl,List.nodup_nil,2,rfl,a7 _,(qR (sf (aw _))).2⟩
def eK.at{x:Sh}{m:List (D aC)}{k:Nat}(h:eK x m k):∃r:Nat,x.1=((r:Int),m,())/\r<=2+k/\jk x.2 r m:=by
 obtain⟨r,h1,h2,h3⟩:=h.DB;exact⟨r,ai h1 (ai h.list rfl),h2,h3⟩
def eK.opens{x:Sh}{m:List (D aC)}{k:Nat}(h:eK x m k):cG x.2=((x.1.1,m),0):=by
 obtain⟨r,h1,h2,h3⟩:=h.at;rw[h3.opens,h1]
def eK.yB{x:Sh}{m:List (D aC)}{k:Nat}(h:eK x m k):(cG x.2).2=0:=by rw[h.opens]
def eK.again{x:Sh}{m:List (D aC)}{k:Nat}(h:eK x m k):(((cG x.2).1.1,(cG x.2).1.2,()):Int×List (D aC)×Unit)=x.1:=by
 rw[h.opens];exact ai rfl (ai h.list.symm rfl)
def jk.sZ{d:Dk}{r:Nat}{l:List (D aC)}(h:jk d r l):cW d 1000000:=⟨by have:=h.fV.lI;omega,by rw[h.quiet];exact Nat.zero_le _,h.fV.NI⟩
def eK.sZ{x:Sh}{m:List (D aC)}{k:Nat}(h:eK x m k):cW x.2 1000000:=let⟨_,_,_,h3⟩:=h.at;h3.sZ
def eK.sec{x:Sh}{m:List (D aC)}{k:Nat}(h:eK x m k):∀i,i<x.2.2.2.1.length->(nth .str x.2.2.2.1 i).length=64:=let⟨_,_,_,h3⟩:=h.at;h3.fV.sec
def eK.mm{x:Sh}{m:List (D aC)}{k:Nat}(h:eK x m k):x.1.2.1.length<=3:=by rw[h.list];let⟨_,_,_,h3⟩:=h.at;exact h3.mm
def eK.round{x:Sh}{m:List (D aC)}{k:Nat}(h:eK x m k):0<=(x.1.1:Int)/\(x.1.1:Int)<=2+k:=by
 obtain⟨r,h1,h2,_⟩:=h.DB;omega
def eK.Xu{x:Sh}{m:List (D aC)}{k:Nat}(h:eK x m k)(hk:k<=1000):x.1.2.1.length<=100/\0<=(x.1.1:Int)/\(x.1.1:Int)<=1000000000/\cW x.2 1000000:=
 ⟨ak h.mm (by decide),h.round.1,by have:=h.round.2;omega,h.sZ⟩
def eK.Lr{x:Sh}{m:List (D aC)}{k:Nat}(h:eK x m k)(hk:k<=1000):x.1.2.1.length<=99/\0<=(x.1.1:Int)/\(x.1.1:Int)<=1000000000/\cW x.2 1000000:=
 ⟨ak h.mm (by decide),h.round.1,by have:=h.round.2;omega,h.sZ⟩
def Tz{a b:List (List UInt8)}(h:a=b):nE a b=true:=decide_eq_true h
def eK.self{x:Sh}{m:List (D aC)}{k:Nat}(h:eK x m k):eK x x.1.2.1 k:=by rw[h.list];exact h
def eK.yC{x:Sh}{m:List (D aC)}{k:Nat}(h:eK x m k):(cG x.2).1.2=x.1.2.1:=by rw[h.opens,h.list]
def eK.len{x:Sh}{m:List (D aC)}{k:Nat}(h:eK x m k):x.1.2.1.length<=1000000:=ak h.mm (by decide)
def E7{b:List Int}{i n:Int}{t:D bD}(h:(kj b i t n).2.isNil=true):(-2147483648:Int)<=(kj b i t n).1/\(kj b i t n).1<=(2147483647:Int):=by
 unfold kj at h ⊢;split
 ·rename_i hk
  rw[if_pos hk]at h;split
  ·exact⟨by decide,by decide⟩
  ·rename_i h1
   exact⟨by show(-2147483648:Int)<=n-(n9 b i.toNat+t.1);omega,by show n-(n9 b i.toNat+t.1)<=(2147483647:Int);omega⟩
 ·split
  ·exact⟨by decide,by decide⟩
  ·rename_i h1
   exact⟨by show(-2147483648:Int)<=n;omega,by show n<=(2147483647:Int);omega⟩
def TA{l:List (D aB)}{b:List Int}{i:Int}{t:D bD}(h:(gT l b i t).2.isNil=true):(-2147483648:Int)<=(gT l b i t).1/\(gT l b i t).1<=(2147483647:Int):=by
 unfold gT at h ⊢;split
 ·rename_i hk;rw[if_pos hk]at h;exact E7 h
 ·rename_i hk
  rw[if_neg hk]at h;split
  ·rename_i h1;rw[if_pos h1]at h;exact E7 h
  ·exact⟨show(-2147483648:Int)<=0 by decide,show(0:Int)<=2147483647 by decide⟩
def Iy{l:List (D aB)}{b:List Int}:∀{os:List (D aB)} {i:Nat},(∀k,k<os.length->(nth aB os k).2.2.2.1.length<=6)->(qZ l b os i).length<=6*os.length
 |[],i,_=>by simp[qZ]
 |o :: r,i,h=>by
  have h0:o.2.2.2.1.length<=6:=h 0 (by simp);have hr:=Iy (l:=l) (b:=b) (os:=r) (i:=i+1) fun k hk=>h (k+1) (by simp;omega)
  have hl:(AS l b i o.2.2.2.1).length=o.2.2.2.1.length:=by simp[AS]
  show(AS l b i o.2.2.2.1++qZ l b r (i+1)).length<=6*(r.length+1);rw[ab];omega
def E8(s:List Int):∀k,ja s k % 16=0
 |0=>rfl
 |k+1=>by
  have h:=E8 s k;show(ja s k+cM (nth (.int .i64) s k)) % 16=0;unfold cM;omega
def kx.base{rd:Rd}{root:aD}{ns:List aD}{os:List (D aB)}{bs:List Int}{ps:List Pt}(h:kx rd root ns os bs ps){i:Nat}(hi:i<os.length) :
  (0:Int)<=nth (.int .i64) bs i/\nth (.int .i64) bs i<=(255:Int)/\nth (.int .i64) bs i % (16:Int)=0:=by
 obtain⟨h1,h2,h3⟩:=h.sum;have hs:∀j,j<(bZ os).length->1<=(nth (.int .i64) (bZ os) j:Int)/\(nth (.int .i64) (bZ os) j:Int)<=40:=by
  intro k hk;rw[pG]at hk;rw[Ch hk];have:=h1 k hk;exact⟨b4.2 this.1,b4.2 this.2⟩
 have hm:=M0 hs (os.length-(i+1)) (i+1) (by rw[pG];omega);rw[show i+1+(os.length-(i+1))=os.length by omega]at hm;have e:ja (bZ os) (i+1)=ja (bZ os) i+cM (nth (.int .i64) (bZ os) i):=rfl;have hr:=(JZ (n:=nth (.int .i64) (bZ os) i)).1;have hp:=(hs i (by rw[pG];exact hi)).1;have hb:=h.bi i (by rw[h.bl];exact hi);refine⟨hb.1,?_,by rw[h3 i hi];exact E8 _ _⟩;rw[h3 i hi];have h2:ja (bZ os) os.length<=256:=h2;have hr:(nth (.int .i64) (bZ os) i:Int)<=cM (nth (.int .i64) (bZ os) i):=hr;have hp:(1:Int)<=nth (.int .i64) (bZ os) i:=hp;have key:∀b c d s:Int,b=c+d->s<=d->1<=s->b<=256->c<=255:=by intros;omega
 exact key _ _ _ _ e hr hp (bd hm h2)
def NK{x:cX}(g:gD x){root:aD}{ns:List aD}{os:List (D aB)}{bs:List Int}{ps:List Pt}(h:kx (aO x) root ns os bs ps):bC (root,cF (aO x) ns bs ns.length,ps,())=0:=by
 have hrd:∀j,j<ns.length->(aO x (nth .str ns j)).2.2=0:=fun j hj=>(ke g.ok (h.sc.xx j hj).1).1
 have hl:=h.sc.len;have hle:=h.sc.le;have hpos:=h.sc.pos;have hroot:aP root=0:=by
  have:=(g.read (hrd 0 hpos)).1;rw[h.sc.head]at this;exact this
 have hps:ps.length<=36:=by
  rw[h.pt];have:=Iy (l:=os) (b:=bs) (os:=os) (i:=0) fun k hk=>(h.sc.obj g.ok hk).t6
  omega
 refine EN (Int.le_of_eq hroot) (iK ?_ ?_ ?_) (fun j hj =>?_) (fun j hj =>?_)
 ·show(1:Int)<=((cF (aO x) ns bs ns.length).length:Int);rw[ia];omega
 ·show((cF (aO x) ns bs ns.length).length:Int)<=6;rw[ia];omega
 ·show(ps.length:Int)<=36;omega
 ·have hj:j<ns.length:=by rw[<-ia (aO x) ns bs ns.length];exact hj
  show eD (nth aG (cF (aO x) ns bs ns.length) j)=0;rw[my hj];obtain⟨r1,_,r3,r4⟩:=g.read (hrd j hj);obtain⟨b1,b2,b3⟩:=h.base (i:=j) (by omega);have hm:=g.st.pre.2.2;exact HS (Int.le_of_eq r1) r3 (bd r4 hm) b1 b2 b3
 ·have hj:j<ps.length:=hj
  show eM (cF (aO x) ns bs ns.length).length (nth aR ps j)=0;rw[ia];have hp:=h.Xl j hj;have hmem:nth aR ps j∈qZ os bs os 0:=by rw[<-h.pt];exact eJ (t:=aR) hj
  obtain⟨k,t,hk,ht,e⟩:=AT hmem;rw[Nat.zero_add]at e;have hw:=TA (h.one k hk t ht);have h40:=(h.sc.obj g.ok hk).Uy;have h2:=hp.2.2.2;have h1:=hp.2.1;rw[nL]at h1;have ek:(nth aR ps j).1=(k:Int):=by rw[e]
  rw[ek,aj,vo hk]at h2;refine Co hp.1 (by rw[ek];omega) hp.2.2.1 (Int.le_of_lt_add_one (show _<(39:Int)+1 from Int.lt_of_lt_of_le h2 (b4.2 h40))) ?_ ?_
  ·rw[e];exact hw.1
  ·rw[e];exact hw.2
def QG{x:cX}(g:gD x){root:aD}(h1:(aI (dZ (aO x) root).2).isNil=true) :
  (jb (aO x) root).2=0/\ky (aO x) (dZ (aO x) root).1=jb (aO x) root/\gI (aO x) (dZ (aO x) root).1=true/\bC (dZ (aO x) root).1=0:=by
 obtain⟨ns,os,bs,ps,e,hr,em⟩:=P1 g.ok h1;have hf:=hr.fresh g.ok;have hu:=hr.use g.ok (rd':=aO x) (fun _ _=>rfl) hf;have hl:=Vf e hr;rw[em];exact⟨by rw[hl],hu.trans hl.symm,hf,NK g hr⟩
def om(f:cX)(e:D aC):Prop:=∃f0:cX,gD f0/\f0.1.1<=f.1.1/\dZ (aO f0) e.1=(e,0)/\∀k,(aO f k).2.2=0->(aO f k).2.1<=f0.1.1->aO f k=aO f0 k
def NL(f:cX)(s t k:aD):aO (cL f s t).1 k=aO f k\/(aO (cL f s t).1 k).2.1=f.1.1+1:=by
 cases he:(aI (cL f s t).2).isNil with
 |false=>left;rw[Pq he]
 |true=>
  by_cases e:k=s
  ·right;rw[e,Pp he]
  ·left;exact ML e
def om.write{f:cX}{e:D aC}(h:om f e)(g:gD f)(s t:aD):om (cL f s t).1 e:=by
 obtain⟨f0,h1,h2,h3,h4⟩:=h;refine⟨f0,h1,bd h2 (g.st.write s t).2,h3,fun k a b =>?_⟩;rcases NL f s t k with c|c
 ·rw[c]at a b ⊢;exact h4 k a b
 ·have h2:(f0.1.1:Int)<=f.1.1:=h2
  have b:((aO (cL f s t).1 k).2.1:Int)<=f0.1.1:=b;rw[c]at b;omega
def E9{s:aD}:∀{es:List FE},(es.map px).Nodup->cY cK (fQ cK es s) s=false
 |[],_=>rfl
 |y :: es,h=>by
  rw[az,bz]at h;by_cases e:y.1=s
  ·have hd:fQ cK (y :: es) s=es:=if_pos e
   rw[hd];cases hh:cY cK es s with
   |false=>rfl
   |true=>
    obtain⟨z,hz,e2⟩:=l5.1 hh;exact absurd (ao.2 ⟨z,hz,(e2.trans e.symm:px z=px y)⟩) h.1
  ·have hd:fQ cK (y :: es) s=y :: fQ cK es s:=if_neg e
   rw[hd];have:=E9 (s:=s) h.2;simp only[cY]at this ⊢;simp[this,e]
def QH{f:cX}(g:gD f)(s:aD):(aO (fD f s).1 s).2.2=5:=by
 obtain⟨r,hr⟩:=g.st.fV;cases hh:cY cK f.2.1.1 s with
 |false=>rw[mw hh,lL hh]
 |true=>
  rw[lB hh,lL];exact E9 hr.names
def om.remove{f:cX}{e:D aC}(h:om f e)(g:gD f)(s:aD):om (fD f s).1 e:=by
 obtain⟨f0,h1,h2,h3,h4⟩:=h;refine⟨f0,h1,bd h2 (g.st.remove s).2,h3,fun k a b =>?_⟩;by_cases c:k=s
 ·subst c;rw[QH g]at a;cases a
 ·rw[PW c]at a b ⊢;exact h4 k a b
def om.self{f:cX}(g:gD f){s:aD}{e:D aC}(h:dZ (aO f) s=(e,0))(hs:e.1=s):om f e:=⟨f,g,aw _,by rw[hs];exact h,fun _ _ _=>rfl⟩
def QI{rd:Rd}{s:aD}(h:(dZ rd s).2=0):(dZ rd s).1.1=s:=by
 unfold dZ at h ⊢;split
 ·rename_i c;rw[if_pos c]at h;exact absurd h c
 ·rfl
def jI(f:cX)(l:List (D aC))(s:aD):List (D dH)×Bool×Int:=
 if(gG l s).2=true/\gI (aO f) (gG l s).1=true then((ky (aO f) (gG l s).1).1,decide ((ky (aO f) (gG l s).1).2=0),(ky (aO f) (gG l s).1).2)
 else((jb (aO f) s).1,false,(jb (aO f) s).2)
def QJ{l:List (D aC)}{s:aD}(h:(gG l s).2=true):(gG l s).1∈l/\(gG l s).1.1=s:=by
 rcases yA l s with⟨i,i1,i2,i3,i4⟩|⟨j1,j2⟩
 ·rw[Lo (by omega),i4,aj];exact⟨eJ (t:=aC) i1,i3⟩
 ·rw[Io (by omega)]at h;cases h
structure ie (f:cX) (l:List (D aC)):Prop where
 fV:gD f
 made:∀e∈l,om f e
def ie.new:ie qt []:=⟨.new,fun e he=>absurd he (by simp)⟩
def ie.write{f:cX}{l:List (D aC)}(h:ie f l)(s t:aD):ie (cL f s t).1 l:=⟨h.fV.write s t,fun e he=>(h.made e he).write h.fV s t⟩
def ie.remove{f:cX}{l:List (D aC)}(h:ie f l)(s:aD):ie (fD f s).1 l:=⟨h.fV.remove s,fun e he=>(h.made e he).remove h.fV s⟩
def TB{l:List (D aC)}{e x:D aC}(h:x∈(oQ l e).1):x=e\/x∈l:=by
 unfold oQ at h;split at h
 ·exact .inr h
 ·split at h
  ·exact .inr h
  ·rename_i l' hl
   unfold qw at hl;split at hl
   ·cases hl
    rcases cm h with h|h
    ·exact .inr h
    ·exact .inl h
   ·split at hl
    ·cases hl
    ·cases hl
     rcases bw.1 h with h|h
     ·exact .inr h
     ·exact .inl (bc.1 h)
def QK{l:List (D aC)}{s:aD}{x:D aC}(h:x∈(nN l s).1):x∈l:=by
 unfold nN at h;split at h
 ·exact h
 ·exact(List.mem_filter.1 h).1
def sg(f:cX)(l:List (D aC))(s:aD):List (D aC)×Int:=if(dZ (aO f) s).2=0 then oQ l (dZ (aO f) s).1 else(l,(dZ (aO f) s).2)
def ie.put{f:cX}{l:List (D aC)}(h:ie f l){s:aD}(hm:(dZ (aO f) s).2=0):ie f (oQ l (dZ (aO f) s).1).1:=by
 refine⟨h.fV,fun x hx =>?_⟩;rcases TB hx with rfl|hx
 ·exact om.self h.fV (ai rfl hm) (QI hm)
 ·exact h.made x hx
def ie.build{f:cX}{l:List (D aC)}(h:ie f l)(s:aD):ie f (sg f l s).1:=by
 unfold sg;split
 ·rename_i hm;exact h.put hm
 ·exact h
def ie.drop{f:cX}{l:List (D aC)}(h:ie f l)(s:aD):ie f (nN l s).1:=⟨h.fV,fun x hx=>h.made x (QK hx)⟩
def xM(x:Sh):Prop:=x.1.2.1.length<=99/\0<=(x.1.1:Int)/\(x.1.1:Int)<=1000000000/\cW x.2 1000000
def tD(l:List (D aC)):Prop:=∀i,i<l.length->(nth aC l i).2.1.length<=1000/\(nth aC l i).2.2.1.length<=1000
def jO(f:cX)(x:Sh)(s:aD):Sh×Int:=if(dZ (aO f) s).2=0 then kr x (dZ (aO f) s).1 else(x,(dZ (aO f) s).2)
def QL{f:cX}{x:Sh}{s:aD}(h:¬(dZ (aO f) s).2=0):jO f x s=(x,(dZ (aO f) s).2):=by unfold jO;rw[if_neg h]
def NM{f:cX}{x:Sh}{s:aD}(h:(dZ (aO f) s).2=0):jO f x s=kr x (dZ (aO f) s).1:=by unfold jO;rw[if_pos h]
def NN{f:cX}(g:gD f){s:aD}(h:(dZ (aO f) s).2=0):(dZ (aO f) s).1.2.1.length<=1000000/\(dZ (aO f) s).1.2.2.1.length<=1000000:=by
 have:=lF (QG g (root:=s) (aQ.2 h)).2.2.2;have h1:=this.p6;have h2:=this.Cp;exact⟨by omega,by omega⟩
def QM{l:List (D aC)}(h:tD l){s:aD}(hs:(gG l s).2=true):(gG l s).1.2.1.length<=1000:=by
 obtain⟨j,hj,e⟩:=hH (t:=aC) (QJ hs).1;rw[<-e];exact(h j hj).1
def tD.wide{l:List (D aC)}(h:tD l):∀i,i<l.length->(nth aC l i).2.1.length<=1000000/\(nth aC l i).2.2.1.length<=1000000:=fun i hi=>by
 have:=h i hi;omega
def QN{f:cX}{l:List (D aC)}{s:aD}(h1:(gG l s).2=true)(h2:gI (aO f) (gG l s).1=true) :
  jI f l s=((ky (aO f) (gG l s).1).1,decide ((ky (aO f) (gG l s).1).2=0),(ky (aO f) (gG l s).1).2):=by unfold jI;rw[if_pos ⟨h1,h2⟩]
def xN{f:cX}{l:List (D aC)}{s:aD}(h:¬((gG l s).2=true/\gI (aO f) (gG l s).1=true)):jI f l s=((jb (aO f) s).1,false,(jb (aO f) s).2):=by unfold jI;rw[if_neg h]
def Vu(n:Int):(aI n).isNil=decide (n=0):=by
 cases h:(aI n).isNil with
 |true=>rw[decide_eq_true (aQ.1 h)]
 |false=>rw[decide_eq_false fun e=>by rw[aQ.2 e]at h;cases h]
def eK.TC{x:Sh}{m:List (D aC)}{k:Nat}(h:eK x m k):tD x.1.2.1:=fun i hi=>by
 obtain⟨r,h1,h2,h3⟩:=h.at;rw[h.list]at hi ⊢;have h:=lF (h3.tC _ (eJ (t:=aC) hi));have h1:=h.p6;have h2:=h.Cp;exact⟨by omega,by omega⟩
def NO{f:cX}{x:Sh}{k:Nat}(g:gD f)(h:eK x x.1.2.1 k)(hk:k<=1000)(s:aD):(jO f x s).2=(sg f x.1.2.1 s).2/\eK (jO f x s).1 (sg f x.1.2.1 s).1 (k+1):=by
 unfold jO sg;by_cases c:(dZ (aO f) s).2=0
 ·rw[if_pos c,if_pos c];exact Ix h hk _
 ·rw[if_neg c,if_neg c];exact⟨rfl,h.next⟩
def vE:Sh:=(((cG jl.2).1.1,(cG jl.2).1.2,()),jl.2)
def z6:vE=jl:=ai jB.again rfl
def vX:eK vE [] 0:=by rw[z6];exact jB
def FY{d:Dk}(h:d.2.2.2.1=[])(c:Int):kX d c=((-1,false,()),d.2.1,d.2.1,[],()):=by unfold kX;rw[h];rfl
def fW(d:Dk)(c:Int):Dk:=cc (⟨kX d c,rfl⟩:∃y,y=kX d c)
def jt(d:Dk)(c:Int):fW d c=kX d c:=cd (⟨kX d c,rfl⟩:∃y,y=kX d c)
def CH{d:Dk}(h:(bP d).2=0):(bP d).1.2.1=(bP d).1.2.2.1:=by
 by_cases c:(stepOf d).2=0
 ·rw[Er c]
 ·rw[zA c]at h;exact absurd h c
def Iz:jl.2.2.1=jl.2.2.2.1:=by
 have e:iR (qX 112)=gB (qX 112):=mb _;have h0:(gB (qX 112)).2=0:=by rw[<-e];exact(qR (sf (aw _))).1
 show(iR (qX 112)).1.2.1=(iR (qX 112)).1.2.2.1;rw[e];unfold gB at h0 ⊢;split at h0
 ·cases h0
 ·split at h0
  ·rename_i c;exact absurd h0 c
  ·split at h0
   ·rename_i c;exact absurd h0 c
   ·split at h0
    ·rename_i c;exact absurd h0 c
    ·rename_i c1 c2 c3 c4
     rw[if_neg c1,if_neg c2,if_neg c3,if_neg c4];exact CH h0
def Sync(x:Sh):Prop:=x.2.2.1=x.2.2.2.1
def NP{d:Dk}{r:Int}{l:List (D aC)}(h:(eI d r l).2=0):(eI d r l).1.2.1=(eI d r l).1.2.2.1:=by
 unfold eI at h ⊢;split at h
 ·rename_i c;exact absurd h c
 ·split at h
  ·rename_i c;exact absurd h c
  ·split at h
   ·rename_i c;exact absurd h c
   ·split at h
    ·rename_i c;exact absurd h c
    ·rename_i c1 c2 c3 c4
     rw[if_neg c1,if_neg c2,if_neg c3,if_neg c4];exact CH h
def CI{x:Sh}{l:List (D aC)}(h:(qv x l).2=0):Sync (qv x l).1:=NP (d:=x.2) h
def TD{x:Sh}{m:List (D aC)}{k:Nat}(h:eK x m k)(hk:k<=1000)(hs:Sync x)(e:D aC):Sync (kr x e).1:=by
 have hb:=(Ix h hk e).1;have hl:=h.list;unfold kr at hb ⊢;unfold oQ at hb;rw[hl]at hb ⊢;have:=vS e;by_cases hf:bC e=0
 ·rw[if_neg (not_not_intro hf)]at hb ⊢
  rw[if_neg (by omega)]at hb;cases hp:qw m e with
  |none=>exact hs
  |some l=>rw[hp]at hb;exact CI hb
 ·rw[if_pos hf];exact hs
def QO{x:Sh}{m:List (D aC)}{k:Nat}(h:eK x m k)(hk:k<=1000)(hs:Sync x)(s:aD):Sync (gJ x s).1:=by
 have hb:=(E6 h hk s).1;have hl:=h.list;rcases yA m s with⟨i,i1,i2,i3,i4⟩|⟨j1,j2⟩
 ·have e:=A5 h.names i1 i3
  have el:(m.eraseIdx i).length=m.length-1:=by rw[cn,if_pos i1]
  have ed:nN m s=(m.eraseIdx i,0):=by unfold nN;rw[if_neg (by rw[e,el];omega),e]
  rw[ed]at hb;unfold gJ at hb ⊢;rw[if_pos (by rw[hl,i4];omega)]at hb ⊢;exact CI hb
 ·unfold gJ
  rw[if_neg (by rw[hl,j2];omega)];exact hs
def jC{x:Sh}{m:List (D aC)}{k:Nat}(h:eK x m k)(hs:Sync x)(c:Int):kX x.2 c=x.2:=by
 obtain⟨r,_,_,h3⟩:=h.at;rw[FY h3.quiet];obtain⟨s,⟨f,dn,u⟩,kp,now,w,v⟩:=x;have a:f= -1:=h3.fV.lI;have b:dn=false:=h3.fV.down;have c:w=[]:=h3.quiet;have d:kp=now:=hs;subst a;subst b;subst c;subst d;rfl
def ie.done{l:List (D aC)}:∀(a:List (D dC)) {f:cX},ie f l->ie (jr f a) l
 |[],_,h=>h
 |a :: r,f,h=>by
  have:ie (mJ f a) l:=by
   unfold mJ;split
   ·exact h.write _ _
   ·split
    ·exact h.remove _
    ·exact h
  exact ie.done r this
structure np (f:cX) (x:Sh) (k:Nat):Prop where
 kept:ie f x.1.2.1
 eX:eK x x.1.2.1 k
 sync:Sync x
def np.next{f:cX}{x:Sh}{k:Nat}(h:np f x k):np f x (k+1):=⟨h.kept,h.eX.next,h.sync⟩
def np.done{f:cX}{x:Sh}{k:Nat}(h:np f x k)(a:List (D dC)):np (jr f a) x (k+1):=⟨h.kept.done a,h.eX.next,h.sync⟩
def np.build{f:cX}{x:Sh}{k:Nat}(h:np f x k)(hk:k<=1000)(s:aD):np f (jO f x s).1 (k+1)/\(jO f x s).2=(sg f x.1.2.1 s).2/\(jO f x s).1.1.2.1=(sg f x.1.2.1 s).1:=by
 have hb:=NO h.kept.fV h.eX hk s;refine⟨⟨?_,hb.2.self,?_⟩,hb.1,hb.2.list⟩
 ·rw[hb.2.list];exact h.kept.build s
 ·unfold jO
  split
  ·exact TD h.eX hk h.sync _
  ·exact h.sync
def np.drop{f:cX}{x:Sh}{k:Nat}(h:np f x k)(hk:k<=1000)(s:aD):np f (gJ x s).1 (k+1)/\(gJ x s).2=(nN x.1.2.1 s).2/\(gJ x s).1.1.2.1=(nN x.1.2.1 s).1:=by
 have hb:=E6 h.eX hk s;refine⟨⟨?_,hb.2.self,QO h.eX hk h.sync s⟩,hb.1,hb.2.list⟩;rw[hb.2.list];exact h.kept.drop s
def np.mm{f:cX}{x:Sh}{k:Nat}(h:np f x k):f.2.1.1.length<=6:=h.kept.fV.st.pre.1
def TE{rd:Rd}{s:aD}{n:Int}(h:rd s=(AU,n,0)):jb rd s=([(s,0,[3],())],0):=by
 refine PU (PV h W9 rfl) (bs:=[0]) (ps:=[(0,0,3,())]) (w:=[[3]]) rfl ?_ rfl rfl ?_ rfl
 ·rw[Di rfl (by
   intro i hi;obtain rfl:i=0:=by simp at hi;omega
   simp[nth])]
  have h1:gT [WC] [0] 0 (0,1,3,[],false,())=(3,.nil):=(AH rfl).trans (Dj (by decide) rfl (by decide));simp[nQ,od,oB,h1,aK.isNil]
 ·intro i hi
  obtain rfl:i=0:=by simp at hi;omega
  unfold ua;decide
def QP:cX:=(cL qt [122,122] AU).1
def IA:cX:=(fD QP [122,122]).1
def Vv:aO QP [122,122]=(AU,1,0):=by decide
def Vw:jb (aO QP) [122,122]=([([122,122],0,[3],())],0):=TE Vv
def TF:gD QP:=gD.new.write _ _
def WH:cX:=((0+1,()),(eS cK [] [122,122] (AU,0+1,()) 0,mR cK [] [122,122] 0,()),())
def UJ:QP=WH:=rfl
def Vx:WH.2.1.1.length<=6:=by rw[<-UJ];exact TF.st.pre.1
def DC:jI WH vE.1.2.1 [122,122]=([([122,122],0,[3],())],false,0):=by
 rw[show vE.1.2.1=[]from vX.list,xN (fun z=>by rw[Io (oZ _)]at z;exact Bool.noConfusion z.1),<-UJ,Vw]
def Vy:ie IA []:=(ie.new.write _ _).remove _
def Vz:np IA jl 0:=⟨Vy,jB,Iz⟩
end Go.Mrl

namespace Go.Vg
open Go
def Kb{H:Type}{enc:TypeId×Value->H}{a:Assume}{C:Checked}{os:Os}{f:FuncId}{fn:Func}{s:ChangeSpec}{conds:List PathCond}{apart fresh handsOn again:Bool}{X:World->Array Value->Prop}
  (hX:∀(w w':World) (args:Array Value),w.heap=w'.heap->X w args->X w' args)
  (own:ownKnob C.prog.godebug=none)(started:os.Started)(noInit:C.prog.inits.idxOf? f=none)(hfn:C.prog.funcs[f]?=some fn)
  (witness:∃(w:World) (tape:Tape) (i:Input),w.os=os/\(w.forCall tape i).Shaped C.prog/\i.vars=[]/\Input.okWide C.prog (w.forCall tape i) .any w.heap.size f i/\
   ((s.pre enc C.prog fn conds apart (w.forCall tape i).memory i.args/\X (w.forCall tape i).memory i.args)/\sizedMet enc C.prog fn (cp s) apart (w.forCall tape i).memory i.args)/\a.holds C.prog (lone (Frame.enter C.prog f i.args .normal) [] (w.forCall tape i)))
  (contract:∀(W:World) (base:Nat) (args:Array Value) (ds gs:List (DataW H)) (before:List MemPlace),
   (∀(j:Nat) t v,fn.params[j]?=some t->args[j]?=some v->Value.okWide C.prog W .any base t v)->
   DataW.Whole enc C.prog fn.params.toList s.vars apart W args.toList ds gs before->
   X W args->W.ShapedOpen C.prog->
   Calls C.prog f args W fun e W'=>∃v,e=.returned v/\s.post enc C.prog fn apart fresh handsOn again W args v W') :
  ReturnsInHanded a C os f .any (fun w args=>(s.pre enc C.prog fn conds apart w args/\X w args)/\sizedMet enc C.prog fn (cp s) apart w args) (s.post enc C.prog fn apart fresh handsOn again):=by
 refine returnsInHanded_of_calls own started noInit witness ?_;intro w tape i _ hsh _ hok hpre hholds;obtain⟨_,_,_,fn',hfn',_,_,_,_,hval⟩:=hok;have e:fn'=fn:=ar (hfn'.symm.trans hfn);subst e;obtain⟨⟨⟨ds,gs,before,hw,hc⟩,hx⟩,hz⟩:=hpre;have hw':=DataW.Whole.of_heap (w':=w.forCall tape i) (by rfl) hw;refine(contract (w.forCall tape i) w.heap.size i.args ds gs before hval hw' (hX _ _ _ (by rfl) hx) hsh).mono fun e W' ⟨v,he,hp⟩ =>?_
 subst he;exact ChangeSpec.post_blind hp
def IB{P:Program}{w:World}{g:Nat}{t:TypeId}{zero:Array Value}(h:w.ShapedOpen P)(hg:g<P.globals.size)
  (h0:((begin P (fun _ _=>0) default).world.heap[g]?).bind Obj.row?=some (zero,t))(hz:zero.size=1)
  (hb:P.buildable t=true)(hc:P.cellTypes P.depth t=some [t])(hu:P.underlying t=some (.int .i64)):∃m,w.cell? ⟨g,0,none⟩=some (.int .i64 m):=by
 obtain⟨cs,hh,hs,hr⟩:=h.1 g zero t hg h0;obtain⟨ts,hts,_,hall⟩:=hr hb;rw[hc]at hts;cases hts;have h1:0<cs.size:=by omega
 obtain⟨u,hu',hok⟩:=hall 0 cs[0] (by simp[h1]);have:u=t:=by simpa using hu'.symm
 subst this;have hcell:w.cell? ⟨g,0,none⟩=some cs[0]:=by simp[World.cell?,hh,h1]
 rw[hcell];unfold Cell.ok at hok;rw[hu]at hok;cases hv:cs[0] <;> rw[hv]at hok <;> first|exact hok.elim|(obtain⟨rfl,_⟩:=hok;exact⟨_,rfl⟩)|simp at hok
def UK:Option TypeDesc->Bool
 |some (.interface _)=>true
 |_=>false
def ur{P:Program}{W:World}{name nm:String}{d:DataW Unit}{g:Nat}{t:TypeId}
  (hg:P.globalNamed name=some g)(hty:(P.globals[g]?).map (·.type)=some t)(hi:UK (P.underlying t)=true)
  (h:Lib.VarReads P W name (.iface nm d)):∃ev,W.cell? ⟨g,0,none⟩=some ev/\(ev=.nilIface\/∃te pe,ev=.iface te pe):=by
 obtain⟨g',t',cs,fuel,p,hg',ht',hvar,hd⟩:=h;obtain rfl:=ar (hg.symm.trans hg');obtain rfl:=ar (hty.symm.trans ht');have hc:=World.var?_cell hg hvar 0;obtain⟨ms,hu⟩:∃ms,P.underlying t=some (.interface ms):=by
  unfold UK at hi;split at hi
  ·rename_i ms hm;exact⟨ms,hm⟩
  ·cases hi
 cases fuel with
 |zero=>simp[b5]at hd
 |succ n=>
  cases hl:cs.toList with
  |nil=>rw[hl]at hd;simp[b5,hu]at hd
  |cons v r=>
   have h0:cs[0]?=some v:=by rw[<-Array.getElem?_toList,hl];rfl
   rw[h0]at hc;refine⟨v,hc,?_⟩;rw[hl]at hd;cases v <;> first|exact .inl rfl|exact .inr ⟨_,_,rfl⟩|(simp[b5,hu]at hd)
def IC{P:Program}{W:World}{name:String}{k:IntKind}{zs:List Int}{g:Nat}{t e:TypeId}{n:Nat}
  (hg:P.globalNamed name=some g)(hty:(P.globals[g]?).map (·.type)=some t)(ht:P.underlying t=some (.array n e))(he:P.underlying e=some (.int k))(hce:P.cellsOf e=1)(hct:P.cellsOf t=n)
  (h:Lib.VarReads P W name (Lib.tabData k zs)):Lib.TabIs P W name k zs:=by
 obtain⟨g',t',cs,fuel,p,hg',ht',hvar,hd⟩:=h;obtain rfl:=ar (hg.symm.trans hg');obtain rfl:=ar (hty.symm.trans ht');unfold Lib.TabIs;rw[hvar,<-Lib.cells_of_tab ht he hce hct hd]
end Go.Vg

