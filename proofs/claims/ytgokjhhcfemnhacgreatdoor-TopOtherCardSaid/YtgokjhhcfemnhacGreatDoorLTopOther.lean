/- A part of the proof that the law TopOtherCard holds of the given program: facts that are used there. -/
import Derived.Test.YtgokjhhcfemnhacGreatDoorPart4
import Derived.Test.YtgokjhhcfemnhacGreatDoorRows
import Derived.Test.YtgokjhhcfemnhacGreatDoorTie
import Derived.Test.YtgokjhhcfemnhacGreatDoorCards
import Derived.LaidMore
set_option linter.unusedSimpArgs false
set_option linter.unusedVariables false
set_option maxRecDepth 100000
set_option maxHeartbeats 4000000
namespace Go.Proofs.YtgokjhhcfemnhacGreatDoor
open Go.Vg Go.Mrl
noncomputable def Tryz.yr:List (FuncId × (Bool × bp)):=[(76,(true,aO [.str] [.err] (fun _=>True) (fun s=>aW (aI s)))),
 (99,(true,aO [.str] [.int .i64] (fun _=>True) (fun s=>aI s))),
 (21,(true,aO [.err] [.int .i64] (fun _=>True) (fun e=>cI e))),
 (56,(true,ep [dh] [.bool] (fun _=>True) (fun e y=>y=true->jh e))),
 (15,(true,ep [.slice bL, .int .i64] [.bool] (fun _=>True) (fun x y=>y=true->jH x.1 x.2))),
 (26,(true,aO [] [.bool] (fun _=>True) (fun _=>true))),
 (40,(false,bK Tryz.aR [.obj 0, .d (.slice bL)] (fun _ x=>br x) Tryz.rO)),
 (29,(false,bK [] [] (fun _ _=>True) Tryz.ng)),
 (30,(false,bK Tryz.aR [.obj 0, .d .str, .d .str] (fun _ x=>x.2.1.1.length<=6/\0<=x.1.1/\x.1.1<=1000000) Tryz.js)),
 (41,(false,bK Tryz.aR [.obj 0, .d .str] (fun _ _=>True) Tryz.ka)),
 (31,(false,bK Tryz.aR [.obj 0, .d .str] (fun _ x=>x.2.1.1.length<=6) Tryz.qi)),
 (34,(false,bK Tryz.aR [.obj 0, .d .str] (fun _ x=>x.2.1.1.length<=6) Tryz.oq)),
 (42,(true,ep [.slice bS, .slice bS] [.bool] (fun _=>True) (fun x y=>x.1=x.2->y=true)))]
theorem Tryz.Cm:bz Tryz.prog Tryz.B Tryz.X Tryz.yr:=
 aT (aE Tryz.eX) (aT (aE Tryz.cT) (aT (aE Tryz.eg) (aT (ct Tryz.kB) (aT (ct Tryz.pS) (aT (aE Tryz.FC) (aT (Tryz.GH) (aT (Tryz.tU) (aT (Tryz.pQ) (aT (Tryz.tf) (aT (Tryz.qN) (aT (Tryz.AN) (aT (ct Tryz.ym) (bV Tryz.bW)))))))))))))
def yt (l:List (D bL)) (_r:List UInt8) (s:List UInt8) (_t:List UInt8):ck:=[
 (0,fun st=>{X:=Nat,inv:=fun i=>i<=List.length (cq (.slice .str) st 11)/\∀j,j < i->¬ nth .str (cq (.slice .str) st 11) j=s,bw:=fun i=>List.length (cq (.slice .str) st 11) - i,bg:=fun i=>[(14,sI i)],bh:=[1,2,3,10,11]})]
theorem zV (l:List (D bL)) (r:List UInt8) (s:List UInt8) (t:List UInt8) (hw:dH [.slice bL, .str, .str, .str] (l,r,s,t)):(ca Tryz.B Tryz.yr Tryz.f6 (yt l r s t) [.slice bL, .str, .str, .str] [.bool] (fun _ y=>y=true) (l,r,s,t)).holds:=by
 refine holds_of (p:=
  let za:=false=true
  let zb:=true=true
  let zc:=(((0:Int),()),([],(0:Int),()),())
  let zd:=dw zc l
  let ze:=List.length zd.2.1.1<=(6:Nat)
  let zf:=aL (aY zd) r
  let zg:=List.length zf.1
  let zh:=zd.1.1
  let zi:=(bH zd s t).1
  let zj:=(cy zi s).1
  let zk:=cQ (aY zd) r
  let zl:=cI (aW zk.2)
  let zm:=cQ (aY zi) r
  let zn:=cQ (aY zj) r
  (True)/\(((!true)=true->(za))/\((!true)=false->(True)/\(∀x_0:Bool,((x_0=true->jH l (30:Int))->(((!x_0)=true->(zb))/\((!x_0)=false->((List.length r<=aH)->(((decide ((↑(List.length r):Int) > (20:Int)))=true->(zb))/\((decide ((↑(List.length r):Int) > (20:Int)))=false->((List.length s<=aH)->(((decide ((↑(List.length s):Int) > (20:Int)))=true->(zb))/\((decide ((↑(List.length s):Int) > (20:Int)))=false->((List.length t<=aH)->(((decide ((↑(List.length t):Int) > (1300:Int)))=true->(zb))/\((decide ((↑(List.length t):Int) > (1300:Int)))=false->(True)/\((True)->(br zc)/\((True)->(ze)/\((True)->(((!aV.isNil (aW zf.2.2))=true->(zb))/\((!aV.isNil (aW zf.2.2))=false->(∃(x:Nat),(x<=zg/\∀(j:Nat),j < x->¬nth Ty.str zf.1 j=s)/\((0:Int)=(↑x:Int)/\True)/\True)/\(∀x_1:Nat,((x_1<=zg/\∀(j:Nat),j < x_1->¬nth Ty.str zf.1 j=s)->((zg<=aH)->(((decide ((↑x_1:Int) < (↑zg:Int)))=true->((0:Int)<=(↑x_1:Int)/\(↑x_1:Int) < (↑zg:Int))/\(((nth Ty.str zf.1 x_1 == s)=true->(zb))/\((nth Ty.str zf.1 x_1 == s)=false->((aK (↑x_1:Int))->((aK (1:Int))->(aK ((↑x_1:Int) + (1:Int)))/\(∃(x':Nat),(x'<=zg/\∀(j:Nat),j < x'->¬nth Ty.str zf.1 j=s)/\zg - x' < zg - x_1/\((↑x_1:Int) + (1:Int)=(↑x':Int)/\True)/\(C.cn (1:Nat)=C.cn (1:Nat)/\zh=zh/\True)/\zd.2.1=zd.2.1/\True))))))/\((decide ((↑x_1:Int) < (↑zg:Int)))=false->(ze)/\((True)->(ze/\(0:Int)<=zh/\zh<=(1000000:Int))/\((True)->(List.length zi.2.1.1<=(6:Nat))/\((True)->(True)/\((True)->(List.length zj.2.1.1<=(6:Nat))/\((True)->(True)/\(True)/\(((zl == cI (aW zm.2))=true->(True)/\(True)/\(((zl == cI (aW zn.2))=true->(True)/\(∀x_2:Bool,((zk.1=zm.1->x_2=true)->(((x_2)=true->(True)/\(∀x_3:Bool,((zk.1=zn.1->x_3=true)->(x_3=true))))/\((x_2)=false->(za))))))/\((zl == cI (aW zn.2))=false->(za))))/\((zl == cI (aW zm.2))=false->(za)))))))))))))))))))))))))))))))))) (by kernel_rfl) ?_
 dsimp -iota -proj -eta only
 refine ⟨trivial,⟨fun h0=>absurd (show false=true from h0) (by decide),fun h0=>⟨trivial,fun x_0 q_0=>iB (fun h1=>rfl) (fun h1 h2=>iL (fun h3=>rfl) (fun h3 h4=>iL (fun h5=>rfl) (fun h5 h6=>iL (fun h7=>rfl) (fun h7=>⟨trivial,fun h8=>⟨br.new,fun h9=>⟨?a,fun h10=>iB (fun h11=>rfl) (fun h11=>⟨(⟨0,⟨Nat.zero_le _,fun j hj=>absurd hj (Nat.not_lt_zero _)⟩,⟨rfl,trivial⟩,(by trivial)⟩),fun x_1 q_1 h12=>iL (fun h13=>⟨(by omega),iQ (fun h14=>rfl) (fun h14 h15 h16=>⟨(by simp only [aK,aH] at *;omega),(⟨x_1 + 1,⟨by omega,jd q_1.2 (by assumption)⟩,by omega,⟨by omega,trivial⟩,(by trivial)⟩)⟩)⟩) (fun h13=>⟨?b,fun h14=>⟨(((br.done l br.new)).pre),fun h15=>⟨((((br.done l br.new)).write s t).1.pre.1),fun h16=>⟨trivial,fun h17=>⟨(((((br.done l br.new)).write s t).1.remove s).1.pre.1),fun h18=>⟨trivial,trivial,iQ (fun h19=>⟨trivial,trivial,iQ (fun h20=>⟨trivial,fun x_2 q_2=>⟨fun h21=>⟨trivial,fun x_3 q_3 => ?c⟩,fun h21 => ?d⟩⟩) (fun h20 => ?e)⟩) (fun h19 => ?f)⟩⟩⟩⟩⟩⟩)⟩)⟩⟩⟩))))⟩⟩⟩
 case a|b=>exact ((br.done l br.new)).pre.1
 case c=>
  have ob:=kO (x:=dw ji l) (root:=r) (s:=s) (t:=t) (by assumption) (kN (i:=x_1) (Nat.not_lt.2 (Int.ofNat_le.1 h13)) q_1.2)
  exact q_3 (congrArg Prod.fst ob.2.symm)
 case d=>
  have ob:=kO (x:=dw ji l) (root:=r) (s:=s) (t:=t) (by assumption) (kN (i:=x_1) (Nat.not_lt.2 (Int.ofNat_le.1 h13)) q_1.2)
  exact absurd (q_2 (congrArg Prod.fst ob.1.symm)) (by rw [h21];exact Bool.false_ne_true)
 case e=>
  have ob:=kO (x:=dw ji l) (root:=r) (s:=s) (t:=t) (by assumption) (kN (i:=x_1) (Nat.not_lt.2 (Int.ofNat_le.1 h13)) q_1.2)
  exact absurd (congrArg (fun z=>cI (aW z.2)) ob.2.symm) h20
 case f=>
  have ob:=kO (x:=dw ji l) (root:=r) (s:=s) (t:=t) (by assumption) (kN (i:=x_1) (Nat.not_lt.2 (Int.ofNat_le.1 h13)) q_1.2)
  exact absurd (congrArg (fun z=>cI (aW z.2)) ob.1.symm) h19
theorem Tryz.zW:bq Tryz.prog Tryz.B.eT Tryz.X 6 [.slice bL, .str, .str, .str] [.bool] (fun _=>True) (fun _ y=>y=true):=
 bE (X:=Tryz.X) Tryz.Cm Tryz.func6 (by kernel_rfl) (fun x=>yt x.1 x.2.1 x.2.2.1 x.2.2.2) (fun x hw hp=>zV x.1 x.2.1 x.2.2.1 x.2.2.2 hw)
open Go.ChangeShapes Go.WideShapes Go.ChangeAt Go.RowKit in
theorem Tryz.rP {W:World} (hL:laidMetH Tryz.prog Rows.topOtherRow.laid W) (hsh:W.ShapedOpen Tryz.prog):Tryz.Hk W:=by
 rw [MakeChecks.laidMetH_plain _ _ _ (by kernel_rfl)] at hL
 exact ⟨xO (g:=1) (t:=242) (e:=23) (n:=20) (by kernel_rfl) (by kernel_rfl) (by kernel_rfl) (by kernel_rfl) (by kernel_rfl) (by kernel_rfl) ((show (Rows.laid_internal_strconv_uint64pow10:DataW Unit)=Lib.tabData .u64 Lib.pow10Tab from by kernel_rfl)▸Lib.laidMet.reads hL (.tail _ (.tail _ (.head _)))),
  xN (g:=0) (t:=3) (zero:=#[.int .i64 0]) hsh (of_decide_eq_true (by kernel_rfl)) (by kernel_rfl) rfl (by kernel_rfl) (by kernel_rfl) (by kernel_rfl),
  nf (g:=4) (t:=36) (by kernel_rfl) (by kernel_rfl) (by kernel_rfl) (Lib.laidMet.reads hL (.tail _ (.tail _ (.tail _ (.tail _ (.tail _ (.head _))))))),
  nf (g:=5) (t:=36) (by kernel_rfl) (by kernel_rfl) (by kernel_rfl) (Lib.laidMet.reads hL (.tail _ (.tail _ (.tail _ (.tail _ (.head _))))))⟩
open Go.ChangeShapes Go.WideShapes Go.ChangeAt Go.RowKit in
set_option maxRecDepth 100000 in
theorem tl (os:Os) (started:os.Started) (H:Type) (enc:TypeId × Value->H) :
  ReturnsInHanded {} Tryz.checked os 6 .any (fun w args=>(Rows.topOtherSpec.pre enc Tryz.prog Tryz.f6 [] false w args/\laidMetH Tryz.prog Rows.topOtherRow.laid w)/\sizedMet enc Tryz.prog Tryz.f6 (OpenSpec.ofChange Rows.topOtherSpec) false w args) (Rows.topOtherSpec.post enc Tryz.prog Tryz.f6 false true false false):=by
 refine zA (C:=Tryz.checked) (X:=fun w _=>laidMetH Tryz.prog Rows.topOtherRow.laid w) (fun _ _ _ hh h=>h.of_heap hh) (by kernel_rfl) started (by kernel_rfl) Tryz.func6
  (ChangeSpec.witness_shaped (enc:=enc) (C:=Tryz.checked) (os:=os) (X:=fun w _=>laidMetH Tryz.prog Rows.topOtherRow.laid w) false (World.laidAll Tryz.prog os Rows.topOtherRow.laid) #[.slice none 0 0, .string ⟨#[]⟩, .string ⟨#[]⟩, .string ⟨#[]⟩] 8 (World.laidAll_os _ _ _) (World.shaped_of_ZipB (by kernel_rfl) (by kernel_rfl)) (by kernel_rfl) (by kernel_rfl) (by kernel_rfl)
   (by rw [MakeChecks.laidMetH_plain _ _ _ (by kernel_rfl)];exact laidMet_laidAll _ (by kernel_rfl) (by kernel_rfl))) ?_
 intro W base args ds gs before hval hW hL hsh
 exact C1 (C:=Tryz.checked) (n:=16) rfl (by kernel_rfl) (fun ds h=>by match ds,h with | [_,_,_,_],_=>rfl) (by kernel_rfl) (by kernel_rfl) (by kernel_rfl) (tb:=4) (by kernel_rfl) Tryz.zW hval hW (Tryz.rP hL hsh) (fun _ _=>trivial)
open Go.ChangeShapes Go.WideShapes Go.ChangeAt Go.RowKit in
theorem vK:Rows.TopOtherSaid:=
 OpenClaim.holds_of_wide 6 Tryz.f6 rfl rfl rfl rfl rfl rfl rfl ⟨rfl,rfl,rfl,rfl,rfl⟩ rfl rfl rfl rfl rfl (by kernel_rfl) Tryz.func6 (by kernel_rfl)
  (of_decide_eq_true (by kernel_rfl)) (by unfold Func.isWrapper;first | (rw [if_pos (by decide +kernel)];kernel_rfl) | (rw [if_neg (by decide +kernel)];exact ⟨rfl,rfl⟩))
  (fun os started H enc _=>tl os started H enc)
theorem topOther_holds:Rows.TopOtherCardSaid:=
 Claim7.holds_tied_plain_at .later [] [.data, .data, .data, .data, .sentinel, .sentinel, .pinned] true (true,"6a9693e68608825ffcfea3137400340b6490202206f494b6fbc4e452f2b457e4") true
  vK (fun _ h=>by cases h) (by kernel_rfl) (fun _ h=>by cases h) topOther_row_tie rfl ⟨rfl,rfl⟩ (by kernel_rfl) rfl
  (fun f fn hf hfn=>by
   obtain rfl:f=6:=Option.some.inj ((show Tryz.prog.funcNamed Rows.topOtherRow.func=some 6 by kernel_rfl).symm.trans hf) |>.symm
   obtain rfl:fn=Tryz.f6:=(Option.some.inj (Tryz.func6.symm.trans hfn)).symm
   exact ⟨by kernel_rfl,fun j t ht=>by
    have hall:(Tryz.f6.params.toList.all fun t => !Tryz.prog.wantsStandIn t)=true:=by kernel_rfl
    have hm:t∈Tryz.f6.params.toList:=Array.mem_def.1 (Array.mem_of_getElem? ht)
    exact (by simpa using List.all_eq_true.1 hall t hm:Tryz.prog.wantsStandIn t=false)⟩)
  (by kernel_rfl)
#print axioms topOther_holds
end Go.Proofs.YtgokjhhcfemnhacGreatDoor

