/- A part of the proof that the law TopTwiceCard holds of the given program: facts that are used there. -/
import Derived.Test.YtgokjhhcfemnhacGreatDoorPart4
import Derived.Test.YtgokjhhcfemnhacGreatDoorRows
import Derived.Test.YtgokjhhcfemnhacGreatDoorTie
import Derived.Test.YtgokjhhcfemnhacGreatDoorCards
import Derived.LaidMore
set_option linter.unusedSimpArgs false
set_option linter.unusedVariables false
set_option maxRecDepth 100000
set_option maxHeartbeats 4000000
namespace Go.Proofs.YtgokjhhcfemnhacGreatDoor
open Go.Vg Go.Mrl
noncomputable def Tryz.yF:List (FuncId × (Bool × br)):=[(76,(true,aO [.str] [.err] (fun _=>True) (fun s=>aY (aI s)))),
 (99,(true,aO [.str] [.int .i64] (fun _=>True) (fun s=>aI s))),
 (21,(true,aO [.err] [.int .i64] (fun _=>True) (fun e=>dh e))),
 (56,(true,eu [bI] [.bool] (fun _=>True) (fun e y=>y=true->jl e))),
 (15,(true,eu [.slice bL, .int .i64] [.bool] (fun _=>True) (fun x y=>y=true->jK x.1 x.2))),
 (26,(true,aO [] [.bool] (fun _=>True) (fun _=>true))),
 (40,(false,bH Tryz.aR [.obj 0, .d (.slice bL)] (fun _ x=>bk x) Tryz.rT)),
 (29,(false,bH [] [] (fun _ _=>True) Tryz.nq)),
 (30,(false,bH Tryz.aR [.obj 0, .d .str, .d .str] (fun _ x=>x.2.1.1.length<=6/\0<=x.1.1/\x.1.1<=1000000) Tryz.jv)),
 (44,(false,bH Tryz.aR [.obj 0, .d .str] (fun _ x=>x.2.1.1.length<=6) Tryz.rU)),
 (45,(true,eu [bI,bI] [.bool] (fun _=>True) (fun x y=>x.1=x.2->y=true)))]
theorem Tryz.CH:bB Tryz.prog Tryz.B Tryz.X Tryz.yF:=
 aV (aE Tryz.eZ) (aV (aE Tryz.cS) (aV (aE Tryz.ei) (aV (cy Tryz.kE) (aV (cy Tryz.pX) (aV (aE Tryz.F0) (aV (Tryz.G5) (aV (Tryz.tZ) (aV (Tryz.pV) (aV (Tryz.G7) (aV (cy Tryz.yE) (bR Tryz.bT)))))))))))
noncomputable def Tryz.yG (l:List (D bL)) (r:List UInt8) (s:List UInt8) (_t:List UInt8):b9:=[
 (0,fun st=>{X:=Nat,inv:=fun i=>i<=List.length (cU (ba (cY (((0,()),([],0,()),()):du) l)) r).1.2.1/\∀j,j < i->¬ (nth bn (cU (ba (cY (((0,()),([],0,()),()):du) l)) r).1.2.1 j).1=s,bx:=fun i=>List.length (cU (ba (cY (((0,()),([],0,()),()):du) l)) r).1.2.1 - i,bh:=fun i=>[(15,sI i)],bj:=[1,2,3,10,11,12]})]
theorem Af (l:List (D bL)) (r:List UInt8) (s:List UInt8) (t:List UInt8) (hw:dy [.slice bL, .str, .str, .str] (l,r,s,t)):(ca Tryz.B Tryz.yF Tryz.f9 (Tryz.yG l r s t) [.slice bL, .str, .str, .str] [.bool] (fun _ y=>y=true) (l,r,s,t)).holds:=by
 refine holds_of (p:=
  let za:=false=true
  let zb:=true=true
  let zc:=((0:Int),())
  let zd:=([],zc)
  let ze:=(zc,zd,())
  let zf:=cY ze l
  let zg:=List.length zf.2.1.1<=(6:Nat)
  let zh:=cU (ba zf) r
  let zi:=dh (aY zh.2)
  let zj:=(cU (ba (cY (zc,zd,()) l)) r).1.2.1
  let zk:=List.length zj
  let zl:=zh.1.2.1
  let zm:=fun (x_2:Nat)=>(↑x_2:Int) < (↑(List.length zl):Int)
  let zn:=zh.1.1=zh.1.1/\zl=zl/\zh.1.2.2.1=zh.1.2.2.1/\True
  let zo:=@List.nil (Int × Int × Int × Unit) = @List.nil (Int × Int × Int × Unit)
  let zp:=@List.nil (List UInt8 × Int × Int × Unit) = @List.nil (List UInt8 × Int × Int × Unit)
  let zq:=zf.1.1
  let zr:=(bU zf s t).1
  let zs:=cU (ba zr) r
  (True)/\(((!true)=true->(za))/\((!true)=false->(True)/\(∀x_0:Bool,((x_0=true->jK l (30:Int))->(((!x_0)=true->(zb))/\((!x_0)=false->((List.length r<=aH)->(((decide ((↑(List.length r):Int) > (20:Int)))=true->(zb))/\((decide ((↑(List.length r):Int) > (20:Int)))=false->((List.length s<=aH)->(((decide ((↑(List.length s):Int) > (20:Int)))=true->(zb))/\((decide ((↑(List.length s):Int) > (20:Int)))=false->((List.length t<=aH)->(((decide ((↑(List.length t):Int) > (1300:Int)))=true->(zb))/\((decide ((↑(List.length t):Int) > (1300:Int)))=false->(True)/\((True)->(bk ze)/\((True)->(zg)/\((True)->(zg)/\((True)->(True)/\(True)/\(((zi != zi)=true->(za))/\((zi != zi)=false->(True)/\(∀x_1:Bool,((zh.1=zh.1->x_1=true)->(((!x_1)=true->(za))/\((!x_1)=false->(∃(x:Nat),(x<=zk/\∀(j:Nat),j < x->¬(nth bn zj j).1=s)/\((0:Int)=(↑x:Int)/\True)/\True)/\(∀x_2:Nat,((x_2<=zk/\∀(j:Nat),j < x_2->¬(nth bn zj j).1=s)->((List.length zl<=aH)->(((decide (zm x_2))=true->((0:Int)<=(↑x_2:Int)/\zm x_2)/\((((nth bn zl x_2).1 == s)=true->(zb))/\(((nth bn zl x_2).1 == s)=false->((aK (↑x_2:Int))->((aK (1:Int))->(aK ((↑x_2:Int) + (1:Int)))/\(∃(x':Nat),(x'<=zk/\∀(j:Nat),j < x'->¬(nth bn zj j).1=s)/\zk - x' < zk - x_2/\((↑x_2:Int) + (1:Int)=(↑x':Int)/\True)/\zn/\zo/\zp/\(C.cf (1:Nat)=C.cf (1:Nat)/\zq=zq/\True)/\zf.2.1=zf.2.1/\zn/\zo/\zp/\True))))))/\((decide (zm x_2))=false->(((!aW.isNil (aY zh.2))=true->(zb))/\((!aW.isNil (aY zh.2))=false->(zg/\(0:Int)<=zq/\zq<=(1000000:Int))/\((True)->(List.length zr.2.1.1<=(6:Nat))/\((True)->(((aW.isNil (aY zs.2))=true->(True)/\(∀x_3:Bool,((zh.1=zs.1->x_3=true)->(x_3=true))))/\((aW.isNil (aY zs.2))=false->(za)))))))))))))))))))))))))))))))))))))) (by kernel_rfl) ?_
 dsimp -iota -proj -eta only
 refine ⟨trivial,⟨fun h0=>absurd (show false=true from h0) (by decide),fun h0=>⟨trivial,fun x_0 q_0=>iB (fun h1=>rfl) (fun h1 h2=>iL (fun h3=>rfl) (fun h3 h4=>iL (fun h5=>rfl) (fun h5 h6=>iL (fun h7=>rfl) (fun h7=>⟨trivial,fun h8=>⟨bk.new,fun h9=>⟨?a,fun h10=>⟨?b,fun h11=>⟨trivial,trivial,iN (fun h12=>(by trivial)) (fun h12=>⟨trivial,fun x_1 q_1=>iB (fun h13=>(by simp_all)) (fun h13=>⟨(⟨0,⟨Nat.zero_le _,fun j hj=>absurd hj (Nat.not_lt_zero _)⟩,⟨rfl,trivial⟩,(by trivial)⟩),fun x_2 q_2 h14=>iL (fun h15=>⟨(by omega),iQ (fun h16=>rfl) (fun h16 h17 h18=>⟨(by simp only [aK,aH] at *;omega),(⟨x_2 + 1,⟨by omega,jh q_2.2 (by assumption)⟩,by omega,⟨by omega,trivial⟩,(by trivial)⟩)⟩)⟩) (fun h15=>iB (fun h16=>rfl) (fun h16=>⟨(((bk.done l bk.new)).pre),fun h17=>⟨((((bk.done l bk.new)).write s t).1.pre.1),fun h18=>⟨fun h19=>⟨trivial,fun x_3 q_3=>(q_3 (congrArg Prod.fst ((tm (x:=cY kO l) (t:=t) (bk.ok (bk.done l bk.new)) h16 (fun j hj=>q_2.2 j (Nat.lt_of_lt_of_le hj (Int.ofNat_le.1 h15))))).symm))⟩,fun h19=>(Bool.noConfusion (((congrArg (fun z=>(aY z.2).isNil) (tm (x:=cY kO l) (t:=t) (bk.ok (bk.done l bk.new)) h16 (fun j hj=>q_2.2 j (Nat.lt_of_lt_of_le hj (Int.ofNat_le.1 h15))))).trans h16).symm.trans h19))⟩⟩⟩))⟩)⟩)⟩⟩⟩⟩⟩))))⟩⟩⟩
 case a|b=>exact ((bk.done l bk.new)).pre.1
theorem Tryz.Ag:bt Tryz.prog Tryz.B.eT Tryz.X 9 [.slice bL, .str, .str, .str] [.bool] (fun _=>True) (fun _ y=>y=true):=
 bG (X:=Tryz.X) Tryz.CH Tryz.func9 (by kernel_rfl) (fun x=>Tryz.yG x.1 x.2.1 x.2.2.1 x.2.2.2) (fun x hw hp=>Af x.1 x.2.1 x.2.2.1 x.2.2.2 hw)
open Go.ChangeShapes Go.WideShapes Go.ChangeAt Go.RowKit in
theorem Tryz.rV {W:World} (hL:laidMetH Tryz.prog Rows.topTwiceRow.laid W) (hsh:W.ShapedOpen Tryz.prog):Tryz.HJ W:=by
 rw [MakeChecks.laidMetH_plain _ _ _ (by kernel_rfl)] at hL
 exact ⟨x6 (g:=1) (t:=242) (e:=23) (n:=20) (by kernel_rfl) (by kernel_rfl) (by kernel_rfl) (by kernel_rfl) (by kernel_rfl) (by kernel_rfl) ((show (Rows.laid_internal_strconv_uint64pow10:DataW Unit)=Lib.tabData .u64 Lib.pow10Tab from by kernel_rfl)▸Lib.laidMet.reads hL (.tail _ (.tail _ (.head _)))),
  x5 (g:=0) (t:=3) (zero:=#[.int .i64 0]) hsh (of_decide_eq_true (by kernel_rfl)) (by kernel_rfl) rfl (by kernel_rfl) (by kernel_rfl) (by kernel_rfl),
  np (g:=4) (t:=36) (by kernel_rfl) (by kernel_rfl) (by kernel_rfl) (Lib.laidMet.reads hL (.tail _ (.tail _ (.tail _ (.tail _ (.tail _ (.head _))))))),
  np (g:=5) (t:=36) (by kernel_rfl) (by kernel_rfl) (by kernel_rfl) (Lib.laidMet.reads hL (.tail _ (.tail _ (.tail _ (.tail _ (.head _))))))⟩
open Go.ChangeShapes Go.WideShapes Go.ChangeAt Go.RowKit in
set_option maxRecDepth 100000 in
theorem tt (os:Os) (started:os.Started) (H:Type) (enc:TypeId × Value->H) :
  ReturnsInHanded {} Tryz.checked os 9 .any (fun w args=>(Rows.topTwiceSpec.pre enc Tryz.prog Tryz.f9 [] false w args/\laidMetH Tryz.prog Rows.topTwiceRow.laid w)/\sizedMet enc Tryz.prog Tryz.f9 (OpenSpec.ofChange Rows.topTwiceSpec) false w args) (Rows.topTwiceSpec.post enc Tryz.prog Tryz.f9 false true false false):=by
 refine zN (C:=Tryz.checked) (X:=fun w _=>laidMetH Tryz.prog Rows.topTwiceRow.laid w) (fun _ _ _ hh h=>h.of_heap hh) (by kernel_rfl) started (by kernel_rfl) Tryz.func9
  (ChangeSpec.witness_shaped (enc:=enc) (C:=Tryz.checked) (os:=os) (X:=fun w _=>laidMetH Tryz.prog Rows.topTwiceRow.laid w) false (World.laidAll Tryz.prog os Rows.topTwiceRow.laid) #[.slice none 0 0, .string ⟨#[]⟩, .string ⟨#[]⟩, .string ⟨#[]⟩] 8 (World.laidAll_os _ _ _) (World.shaped_of_ZipB (by kernel_rfl) (by kernel_rfl)) (by kernel_rfl) (by kernel_rfl) (by kernel_rfl)
   (by rw [MakeChecks.laidMetH_plain _ _ _ (by kernel_rfl)];exact laidMet_laidAll _ (by kernel_rfl) (by kernel_rfl))) ?_
 intro W base args ds gs before hval hW hL hsh
 exact Dl (C:=Tryz.checked) (n:=16) rfl (by kernel_rfl) (fun ds h=>by match ds,h with | [_,_,_,_],_=>rfl) (by kernel_rfl) (by kernel_rfl) (by kernel_rfl) (tb:=4) (by kernel_rfl) Tryz.Ag hval hW (Tryz.rV hL hsh) (fun _ _=>trivial)
open Go.ChangeShapes Go.WideShapes Go.ChangeAt Go.RowKit in
theorem vV:Rows.TopTwiceSaid:=
 OpenClaim.holds_of_wide 9 Tryz.f9 rfl rfl rfl rfl rfl rfl rfl ⟨rfl,rfl,rfl,rfl,rfl⟩ rfl rfl rfl rfl rfl (by kernel_rfl) Tryz.func9 (by kernel_rfl)
  (of_decide_eq_true (by kernel_rfl)) (by unfold Func.isWrapper;first | (rw [if_pos (by decide +kernel)];kernel_rfl) | (rw [if_neg (by decide +kernel)];exact ⟨rfl,rfl⟩))
  (fun os started H enc _=>tt os started H enc)
theorem topTwice_holds:Rows.TopTwiceCardSaid:=
 Claim7.holds_tied_plain_at .later [] [.data, .data, .data, .data, .sentinel, .sentinel, .pinned] true (true,"6a9693e68608825ffcfea3137400340b6490202206f494b6fbc4e452f2b457e4") true
  vV (fun _ h=>by cases h) (by kernel_rfl) (fun _ h=>by cases h) topTwice_row_tie rfl ⟨rfl,rfl⟩ (by kernel_rfl) rfl
  (fun f fn hf hfn=>by
   obtain rfl:f=9:=Option.some.inj ((show Tryz.prog.funcNamed Rows.topTwiceRow.func=some 9 by kernel_rfl).symm.trans hf) |>.symm
   obtain rfl:fn=Tryz.f9:=(Option.some.inj (Tryz.func9.symm.trans hfn)).symm
   exact ⟨by kernel_rfl,fun j t ht=>by
    have hall:(Tryz.f9.params.toList.all fun t => !Tryz.prog.wantsStandIn t)=true:=by kernel_rfl
    have hm:t∈Tryz.f9.params.toList:=Array.mem_def.1 (Array.mem_of_getElem? ht)
    exact (by simpa using List.all_eq_true.1 hall t hm:Tryz.prog.wantsStandIn t=false)⟩)
  (by kernel_rfl)
#print axioms topTwice_holds
end Go.Proofs.YtgokjhhcfemnhacGreatDoor

