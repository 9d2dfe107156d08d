/- A part of the proof that the law TopLineCard holds of the given program: facts that are used there. -/
import Derived.Test.YtgokjhhcfemnhabDoorPart3
import Derived.Test.YtgokjhhcfemnhabDoorRows
import Derived.Test.YtgokjhhcfemnhabDoorTie
import Derived.Test.YtgokjhhcfemnhabDoorCards
import Derived.LaidMore
set_option linter.unusedSimpArgs false
set_option linter.unusedVariables false
set_option maxRecDepth 100000
set_option maxHeartbeats 4000000
namespace Go.Proofs.YtgokjhhcfemnhabDoor
open Go.Vg Go.Mrl
noncomputable def Tryd.nJ:List (FuncId × (Bool × b7)):=[(14,(true,bC [.str] [.err] (fun _=>True) (fun s=>aQ (aj s)))),
 (4,(true,bC [af] [.str, .err] (fun _=>True) (fun e=>aF e))),
 (6,(true,bC [.str] [af, .err] (fun s=>s.length<=100000) (fun s=>cu s))),
 (5,(true,ml [af] [.bool] (fun _=>True) (fun e y=>y=true->iC e))),
 (7,(true,ml [af,af] [.bool] (fun _=>True) (fun x y=>x.1=x.2->y=true)))]
theorem Tryd.rn:df Tryd.prog Tryd.B Tryd.X Tryd.nJ:=
 cL (aC Tryd.mr) (cL (aC Tryd.ri) (cL (aC Tryd.vq) (cL (iw Tryd.pr) (cL (iw Tryd.rm) (jr Tryd.jy)))))
def nK (e:D af):da:=[
 (0,fun st=>{X:=Nat,inv:=fun i=>i + 1<=3000,bR:=fun i=>3000 - i,bm:=fun i=>[(5,sI i)],aV:=[1,3,4]})]
theorem tY (e:D af) (hw:iv [af] e):(fz Tryd.B Tryd.nJ Tryd.f3 (nK e) [af] [.bool] (fun _ y=>y=true) e).holds:=by
 refine holds_of (p:=
  let za:=false=true
  let zb:=(aF e).1
  let zc:=fun (x_1:Nat)=>(↑x_1:Int) + (1:Int)
  let zd:=List.length zb
  (True)/\(((!bj.isNil bj.nil)=true->(za))/\((!bj.isNil bj.nil)=false->(((!cn ([(97:UInt8)],[([(97:UInt8)],(1:Int),(0:Int),())],[],()) == [(97:UInt8),32,49,32,48,32,97,32,49,32,48,10])=true->(za))/\((!cn ([(97:UInt8)],[([(97:UInt8)],(1:Int),(0:Int),())],[],()) == [(97:UInt8),32,49,32,48,32,97,32,49,32,48,10])=false->(True)/\(∀x_0:Bool,((x_0=true->iC e)->(((!x_0)=true->(true=true))/\((!x_0)=false->(True)/\(((!bj.isNil (aF e).2)=true->((zb == @List.nil UInt8)=true))/\((!bj.isNil (aF e).2)=false->(∃(x:Nat),x + (1:Nat)<=(3000:Nat)/\((0:Int)=(↑x:Int)/\True)/\True)/\(∀x_1:Nat,((x_1 + (1:Nat)<=(3000:Nat))->((aK (↑x_1:Int))->((aK (1:Int))->(aK (zc x_1))/\((zd<=au)->(((decide (zc x_1 < (↑zd:Int)))=true->((0:Int)<=(↑x_1:Int)/\(↑x_1:Int) < (↑zd:Int))/\((((↑(UInt8.toNat (ch zb x_1)):Int) == (10:Int))=true->(za))/\(((↑(UInt8.toNat (ch zb x_1)):Int) == (10:Int))=false->((aK (↑x_1:Int))->((aK (1:Int))->(aK (zc x_1))/\(∃(x':Nat),x' + (1:Nat)<=(3000:Nat)/\(3000:Nat) - x' < (3000:Nat) - x_1/\(zc x_1=(↑x':Int)/\True)/\(e.1=e.1/\e.2.1=e.2.1/\e.2.2.1=e.2.2.1/\True)/\True))))))/\((decide (zc x_1 < (↑zd:Int)))=false->(zd<=(100000:Nat))/\(((bj.isNil (aQ (jv zb).2))=true->(True)/\(∀x_2:Bool,(((jv zb).1=e->x_2=true)->(x_2=true))))/\((bj.isNil (aQ (jv zb).2))=false->(za))))))))))))))))))))) (by kernel_rfl) ?_
 dsimp -iota -proj -eta only
 refine ⟨trivial,⟨fun h0=>absurd ((show _=false by kernel_rfl).symm.trans h0) (by decide),fun h0=>⟨fun h1=>absurd ((show _=false by kernel_rfl).symm.trans h1) (by decide),fun h1=>⟨trivial,fun x_0 q_0=>iB (fun h2=>rfl) (fun h2=>⟨trivial,iB (fun h3=>(by rw [tU h3];rfl)) (fun h3=>⟨(⟨0,by omega,⟨rfl,trivial⟩,trivial⟩),fun x_1 q_1 h4 h5=>⟨?a,fun h6=>iL (fun h7=>⟨?b,iQ (fun h8=>(absurd h8 (vh h3 (by omega)))) (fun h8 h9 h10=>⟨?c,(by have:=tV h3;exact ⟨x_1 + 1,by omega,by omega,⟨by omega,trivial⟩,(by trivial)⟩)⟩)⟩) (fun h7=>⟨?d,⟨fun h8=>⟨trivial,fun x_2 q_2=>(q_2 (congrArg Prod.fst (lK h3)))⟩,fun h8=>(Bool.noConfusion (((congrArg (fun z:D af × bj=>z.2.isNil) (lK h3)).symm.trans h8)))⟩⟩)⟩⟩)⟩)⟩⟩⟩⟩
 case a|c=>simp only [aK,au] at *;omega
 case b|d=>omega
theorem Tryd.tZ:bO Tryd.prog Tryd.B.eT Tryd.X 3 [af] [.bool] (fun _=>True) (fun _ y=>y=true):=
 dI (X:=Tryd.X) Tryd.rn Tryd.func3 (by kernel_rfl) (fun x=>nK x) (fun x hw hp=>tY x hw)
open Go.ChangeShapes Go.WideShapes Go.ChangeAt Go.RowKit in
theorem Tryd.nL {W:World} (hL:laidMetH Tryd.prog Rows.topLineRow.laid W) (hsh:W.ShapedOpen Tryd.prog):Tryd.xY W:=by
 rw [MakeChecks.laidMetH_plain _ _ _ (by kernel_rfl)] at hL
 exact ⟨q7 (g:=0) (t:=76) (e:=58) (n:=20) (by kernel_rfl) (by kernel_rfl) (by kernel_rfl) (by kernel_rfl) (by kernel_rfl) (by kernel_rfl) ((show (Rows.laid_internal_strconv_uint64pow10:DataW Unit)=Lib.tabData .u64 Lib.pow10Tab from by kernel_rfl)▸Lib.laidMet.reads hL (.tail _ (.tail _ (.head _)))),
  qZ (g:=1) (t:=3) (zero:=#[.int .i64 0]) hsh (of_decide_eq_true (by kernel_rfl)) (by kernel_rfl) rfl (by kernel_rfl) (by kernel_rfl) (by kernel_rfl),
  iI (g:=2) (t:=27) (by kernel_rfl) (by kernel_rfl) (by kernel_rfl) (Lib.laidMet.reads hL (.tail _ (.tail _ (.tail _ (.tail _ (.tail _ (.head _))))))),
  iI (g:=3) (t:=27) (by kernel_rfl) (by kernel_rfl) (by kernel_rfl) (Lib.laidMet.reads hL (.tail _ (.tail _ (.tail _ (.tail _ (.head _))))))⟩
open Go.ChangeShapes Go.WideShapes Go.ChangeAt Go.RowKit in
set_option maxRecDepth 100000 in
theorem oq (os:Os) (started:os.Started) (H:Type) (enc:TypeId × Value->H) :
  ReturnsInHanded {} Tryd.checked os 3 .any (fun w args=>(Rows.topLineSpec.pre enc Tryd.prog Tryd.f3 [] false w args/\laidMetH Tryd.prog Rows.topLineRow.laid w)/\sizedMet enc Tryd.prog Tryd.f3 (OpenSpec.ofChange Rows.topLineSpec) false w args) (Rows.topLineSpec.post enc Tryd.prog Tryd.f3 false true false false):=by
 refine rX (C:=Tryd.checked) (X:=fun w _=>laidMetH Tryd.prog Rows.topLineRow.laid w) (fun _ _ _ hh h=>h.of_heap hh) (by kernel_rfl) started (by kernel_rfl) Tryd.func3
  (ChangeSpec.witness_shaped (enc:=enc) (C:=Tryd.checked) (os:=os) (X:=fun w _=>laidMetH Tryd.prog Rows.topLineRow.laid w) false (World.laidAll Tryd.prog os Rows.topLineRow.laid) #[.agg #[.string ⟨#[]⟩, .slice none 0 0, .slice none 0 0]] 8 (World.laidAll_os _ _ _) (World.shaped_of_ZipB (by kernel_rfl) (by kernel_rfl)) (by kernel_rfl) (by kernel_rfl) (by kernel_rfl)
   (by rw [MakeChecks.laidMetH_plain _ _ _ (by kernel_rfl)];exact laidMet_laidAll _ (by kernel_rfl) (by kernel_rfl))) ?_
 intro W base args ds gs before hval hW hL hsh
 exact uR (C:=Tryd.checked) (n:=16) rfl (by kernel_rfl) (fun ds h=>by match ds,h with | [_],_=>rfl) (by kernel_rfl) (by kernel_rfl) (by kernel_rfl) (tb:=4) (by kernel_rfl) Tryd.tZ hval hW (Tryd.nL hL hsh) (fun _ _=>trivial)
open Go.ChangeShapes Go.WideShapes Go.ChangeAt Go.RowKit in
theorem rp:Rows.TopLineSaid:=
 OpenClaim.holds_of_wide 3 Tryd.f3 rfl rfl rfl rfl rfl rfl rfl ⟨rfl,rfl,rfl,rfl,rfl⟩ rfl rfl rfl rfl rfl (by kernel_rfl) Tryd.func3 (by kernel_rfl)
  (of_decide_eq_true (by kernel_rfl)) (by unfold Func.isWrapper;first | (rw [if_pos (by decide +kernel)];kernel_rfl) | (rw [if_neg (by decide +kernel)];exact ⟨rfl,rfl⟩))
  (fun os started H enc _=>oq os started H enc)
theorem topLine_holds:Rows.TopLineCardSaid:=
 Claim7.holds_tied_plain_at .later [] [.data, .data, .data, .data, .sentinel, .sentinel, .pinned] true (true,"401c5905b68620053689dbd936f3111e7c0f0e228abeff7e24b4441fb7f37c1b") true
  rp (fun _ h=>by cases h) (by kernel_rfl) (fun _ h=>by cases h) topLine_row_tie rfl ⟨rfl,rfl⟩ (by kernel_rfl) rfl
  (fun f fn hf hfn=>by
   obtain rfl:f=3:=Option.some.inj ((show Tryd.prog.funcNamed Rows.topLineRow.func=some 3 by kernel_rfl).symm.trans hf) |>.symm
   obtain rfl:fn=Tryd.f3:=(Option.some.inj (Tryd.func3.symm.trans hfn)).symm
   exact ⟨by kernel_rfl,fun j t ht=>by
    have hall:(Tryd.f3.params.toList.all fun t => !Tryd.prog.wantsStandIn t)=true:=by kernel_rfl
    have hm:t∈Tryd.f3.params.toList:=Array.mem_def.1 (Array.mem_of_getElem? ht)
    exact (by simpa using List.all_eq_true.1 hall t hm:Tryd.prog.wantsStandIn t=false)⟩)
  (by kernel_rfl)
#print axioms topLine_holds
end Go.Proofs.YtgokjhhcfemnhabDoor

