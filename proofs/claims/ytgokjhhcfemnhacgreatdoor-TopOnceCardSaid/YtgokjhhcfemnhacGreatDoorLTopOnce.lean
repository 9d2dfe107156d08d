/- A part of the proof that the law TopOnceCard holds of the given program: facts that are used there. -/
import Derived.Test.YtgokjhhcfemnhacGreatDoorPart4
import Derived.Test.YtgokjhhcfemnhacGreatDoorRows
import Derived.Test.YtgokjhhcfemnhacGreatDoorTie
import Derived.Test.YtgokjhhcfemnhacGreatDoorCards
import Derived.LaidMore
set_option linter.unusedSimpArgs false
set_option linter.unusedVariables false
set_option maxRecDepth 100000
set_option maxHeartbeats 4000000
namespace Go.Proofs.YtgokjhhcfemnhacGreatDoor
open Go.Vg Go.Mrl
noncomputable def Tryz.AU:List (FuncId × (Bool × bu)):=[(76,(true,aO [.str] [.err] (fun _=>True) (fun s=>aZ (aI s)))),
 (99,(true,aO [.str] [.int .i64] (fun _=>True) (fun s=>aI s))),
 (21,(true,aO [.err] [.int .i64] (fun _=>True) (fun e=>dt e))),
 (56,(true,eV [di] [.bool] (fun _=>True) (fun e y=>y=true->ji e))),
 (15,(true,eV [.slice bM, .int .i64] [.bool] (fun _=>True) (fun x y=>y=true->jG x.1 x.2))),
 (26,(true,aO [] [.bool] (fun _=>True) (fun _=>true))),
 (40,(false,bS Tryz.aT [.obj 0, .d (.slice bM)] (fun _ x=>ba x) Tryz.r6)),
 (29,(false,bS [] [] (fun _ _=>True) Tryz.nq)),
 (34,(false,bS Tryz.aT [.obj 0, .d .str] (fun _ x=>x.2.1.1.length<=6) Tryz.oE)),
 (43,(true,aO [.slice aY, .int .i64] [.int .i64, .bool] (fun x=>xX x.1) (fun x=>eA x.1 x.2)))]
theorem Tryz.Eh:bH Tryz.prog Tryz.B Tryz.X Tryz.AU:=
 aU (aE Tryz.eY) (aU (aE Tryz.cV) (aU (aE Tryz.ef) (aU (cM Tryz.kC) (aU (cM Tryz.p5) (aU (aE Tryz.FQ) (aU (Tryz.GY) (aU (Tryz.uh) (aU (Tryz.AS) (aU (aE Tryz.HN) (bR Tryz.bT))))))))))
def AV (l:List (D bM)) (_r:List UInt8) (a:Int):cj:=[
 (0,fun st=>{X:=Nat × Int,inv:=fun x=>x.1<=List.length (cq (.slice aY) st 9)/\fo (cq (.slice aY) st 9) a x.1 x.2,bC:=fun x=>List.length (cq (.slice aY) st 9) - x.1,bh:=fun x=>[(14,sI x.1),(13,sI x.2)],bj:=[2,9,11,12]})]
theorem Ct (l:List (D bM)) (r:List UInt8) (a:Int) (hw:dG [.slice bM, .str, .int .i64] (l,r,a)):(ca Tryz.B Tryz.AU Tryz.f8 (AV l r a) [.slice bM, .str, .int .i64] [.bool] (fun _ y=>y=true) (l,r,a)).holds:=by
 refine holds_of (p:=
  let za:=false=true
  let zb:=true=true
  let zc:=(((0:Int),()),([],(0:Int),()),())
  let zd:=eu zc l
  let ze:=dq (bt zd) r
  let zf:=ze.1
  let zg:=Nat × Int
  let zh:=List.length zf
  let zi:=fun (x_1:Nat × Int)=>(↑x_1.1:Int) < (↑zh:Int)
  let zj:=fun (x_1:Nat × Int)=>(0:Int)<=(↑x_1.1:Int)/\zi x_1
  let zk:=fun (x_1:Nat × Int)=>(nth aY zf x_1.1).2.1
  let zl:=fun (x_1:Nat × Int)=>List.length (nth aY zf x_1.1).2.2.1
  let zm:=fun (x_1:Nat × Int)=>a - zk x_1 < (↑(zl x_1):Int)
  let zn:=aK (1:Int)
  let zo:=fun (x_1:Nat × Int)=>(↑x_1.1:Int) + (1:Int)
  let zp:=(C.cm (1:Nat)=C.cm (1:Nat)/\zd.1.1=zd.1.1/\True)/\zd.2.1=zd.2.1/\True
  let zq:=fun (x_1:Nat × Int)=>((aK (↑x_1.1:Int))->((zn)->(aK (zo x_1))/\(∃(x':zg),(Prod.fst x'<=zh/\fo zf a (Prod.fst x') (Prod.snd x'))/\zh - Prod.fst x' < zh - x_1.1/\(zo x_1=(↑(Prod.fst x'):Int)/\x_1.2=Prod.snd x'/\True)/\zp)))
  (True)/\(((!true)=true->(za))/\((!true)=false->(True)/\(∀x_0:Bool,((x_0=true->jG l (30:Int))->(((!x_0)=true->(zb))/\((!x_0)=false->((List.length r<=aH)->(((decide ((↑(List.length r):Int) > (20:Int)))=true->(zb))/\((decide ((↑(List.length r):Int) > (20:Int)))=false->(True)/\((True)->(ba zc)/\((True)->(List.length zd.2.1.1<=(6:Nat))/\((True)->(((!aV.isNil (aZ ze.2))=true->(zb))/\((!aV.isNil (aZ ze.2))=false->(xX zf)/\(∃(x:zg),(Prod.fst x<=zh/\fo zf a (Prod.fst x) (Prod.snd x))/\((0:Int)=(↑(Prod.fst x):Int)/\(0:Int)=Prod.snd x/\True)/\True)/\(∀x_1:Nat × Int,((x_1.1<=zh/\fo zf a x_1.1 x_1.2)->((zh<=aH)->(((decide (zi x_1))=true->(zj x_1)/\(((decide (a>=zk x_1))=true->(zj x_1)/\((aK a)->((aK (zk x_1))->(aK (a - zk x_1))/\(zj x_1)/\((zl x_1<=aH)->(((decide (zm x_1))=true->((aK x_1.2)->((zn)->(aK (x_1.2 + (1:Int)))/\(((!(eA zf a).2)=true->(za))/\((!(eA zf a).2)=false->(zj x_1)/\(zj x_1)/\((aK a)->((aK (zk x_1))->(aK (a - zk x_1))/\((0:Int)<=a - zk x_1/\zm x_1)/\((((eA zf a).1 != nth (Ty.int IntKind.i64) (nth aY zf x_1.1).2.2.1 (Int.toNat (a - zk x_1)))=true->(za))/\(((eA zf a).1 != nth (Ty.int IntKind.i64) (nth aY zf x_1.1).2.2.1 (Int.toNat (a - zk x_1)))=false->((aK (↑x_1.1:Int))->((zn)->(aK (zo x_1))/\(∃(x':zg),(Prod.fst x'<=zh/\fo zf a (Prod.fst x') (Prod.snd x'))/\zh - Prod.fst x' < zh - x_1.1/\(zo x_1=(↑(Prod.fst x'):Int)/\x_1.2 + (1:Int)=Prod.snd x'/\True)/\zp))))))))))))/\((decide (zm x_1))=false->(zq x_1)))))))/\((decide (a>=zk x_1))=false->(zq x_1))))/\((decide (zi x_1))=false->(((decide (x_1.2<=(1:Int)))=true->(((eA zf a).2 == (x_1.2 == (1:Int)))=true))/\((decide (x_1.2<=(1:Int)))=false->(za))))))))))))))))))))))) (by kernel_rfl) ?_
 dsimp -iota -proj -eta only
 refine ⟨trivial,⟨fun h0=>absurd (show false=true from h0) (by decide),fun h0=>⟨trivial,fun x_0 q_0=>iB (fun h1=>rfl) (fun h1 h2=>iL (fun h3=>rfl) (fun h3=>⟨trivial,fun h4=>⟨ba.new,fun h5=>⟨(((ba.done l ba.new)).pre.1),fun h6=>iB (fun h7=>rfl) (fun h7=>⟨(tw (ba.ok (ba.done l ba.new)) r),(⟨(0,0),⟨Nat.zero_le _,fo.zero _ _⟩,⟨rfl,rfl,trivial⟩,(by trivial)⟩),fun x_1 q_1 h8=>iL (fun h9=>⟨?a,iE (fun h10=>⟨?b,fun h11 h12=>⟨?c,?d,fun h13=>iL (fun h14 h15 h16=>⟨(by have:=q_1.2.range;simp only [aK];omega),iB (fun h17=>(Bool.noConfusion ((congrArg Prod.snd (tz (oy (ba.ok (ba.done l ba.new)) r a) (Int.ofNat_lt.1 h9) (x4 h10 h14))).symm.trans h17))) (fun h17=>⟨?e,?f,fun h18 h19=>⟨?g,?h,iN (fun h20=>(absurd (congrArg Prod.fst (tz (oy (ba.ok (ba.done l ba.new)) r a) (Int.ofNat_lt.1 h9) (x4 h10 h14))) h20)) (fun h20 h21 h22=>⟨?i,(by exact ⟨(x_1.1 + 1,x_1.2 + 1),⟨by simp only;omega,fo.take (oy (ba.ok (ba.done l ba.new)) r a) q_1.2 (Int.ofNat_lt.1 h9) (x4 h10 h14)⟩,by simp only;omega,⟨by simp only;omega,rfl,trivial⟩,(by trivial)⟩)⟩)⟩⟩)⟩) (fun h14 h15 h16=>⟨?j,(by exact ⟨(x_1.1 + 1,x_1.2),⟨by simp only;omega,q_1.2.skip (Ft h14)⟩,by simp only;omega,⟨by simp only;omega,rfl,trivial⟩,(by trivial)⟩)⟩)⟩⟩) (fun h10 h11 h12=>⟨?k,(by exact ⟨(x_1.1 + 1,x_1.2),⟨by simp only;omega,q_1.2.skip (Fs h10)⟩,by simp only;omega,⟨by simp only;omega,rfl,trivial⟩,(by trivial)⟩)⟩)⟩) (fun h9=>iE (fun h10 => ?l) (fun h10=>(by have:=q_1.2.range;omega)))⟩)⟩⟩⟩))⟩⟩⟩
 case a|b|d|e|f|h=>omega
 case c=>
  have h:=tw (ba.ok (ba.done l ba.new)) r x_1.1 (Int.ofNat_lt.1 h9)
  rw [show l9=((0,()),([],0,()),()) from rfl] at h
  dsimp only [D] at *;simp only [aK] at *;omega
 case g|i|j|k=>simp only [aK,aH] at *;omega
 case l=>
  have e:=fo.done (oy (ba.ok (ba.done l ba.new)) r a) q_1.2 (Nat.le_antisymm q_1.1 (Int.ofNat_le.1 h9))
  exact beq_iff_eq.2 (e.trans (by by_cases h:x_1.2=1 <;> simp [h]))
theorem Tryz.Cu:bw Tryz.prog Tryz.B.eT Tryz.X 8 [.slice bM, .str, .int .i64] [.bool] (fun _=>True) (fun _ y=>y=true):=
 bI (X:=Tryz.X) Tryz.Eh Tryz.func8 (by kernel_rfl) (fun x=>AV x.1 x.2.1 x.2.2) (fun x hw hp=>Ct x.1 x.2.1 x.2.2 hw)
open Go.ChangeShapes Go.WideShapes Go.ChangeAt Go.RowKit in
theorem Tryz.tD {W:World} (hL:laidMetH Tryz.prog Rows.topOnceRow.laid W) (hsh:W.ShapedOpen Tryz.prog):Tryz.HB W:=by
 rw [MakeChecks.laidMetH_plain _ _ _ (by kernel_rfl)] at hL
 exact ⟨x3 (g:=1) (t:=242) (e:=23) (n:=20) (by kernel_rfl) (by kernel_rfl) (by kernel_rfl) (by kernel_rfl) (by kernel_rfl) (by kernel_rfl) ((show (Rows.laid_internal_strconv_uint64pow10:DataW Unit)=Lib.tabData .u64 Lib.pow10Tab from by kernel_rfl)▸Lib.laidMet.reads hL (.tail _ (.tail _ (.head _)))),
  xZ (g:=0) (t:=3) (zero:=#[.int .i64 0]) hsh (of_decide_eq_true (by kernel_rfl)) (by kernel_rfl) rfl (by kernel_rfl) (by kernel_rfl) (by kernel_rfl),
  np (g:=4) (t:=36) (by kernel_rfl) (by kernel_rfl) (by kernel_rfl) (Lib.laidMet.reads hL (.tail _ (.tail _ (.tail _ (.tail _ (.tail _ (.head _))))))),
  np (g:=5) (t:=36) (by kernel_rfl) (by kernel_rfl) (by kernel_rfl) (Lib.laidMet.reads hL (.tail _ (.tail _ (.tail _ (.tail _ (.head _))))))⟩
open Go.ChangeShapes Go.WideShapes Go.ChangeAt Go.RowKit in
set_option maxRecDepth 100000 in
theorem uo (os:Os) (started:os.Started) (H:Type) (enc:TypeId × Value->H) :
  ReturnsInHanded {} Tryz.checked os 8 .any (fun w args=>(Rows.topOnceSpec.pre enc Tryz.prog Tryz.f8 [] false w args/\laidMetH Tryz.prog Rows.topOnceRow.laid w)/\sizedMet enc Tryz.prog Tryz.f8 (OpenSpec.ofChange Rows.topOnceSpec) false w args) (Rows.topOnceSpec.post enc Tryz.prog Tryz.f8 false true false false):=by
 refine zH (C:=Tryz.checked) (X:=fun w _=>laidMetH Tryz.prog Rows.topOnceRow.laid w) (fun _ _ _ hh h=>h.of_heap hh) (by kernel_rfl) started (by kernel_rfl) Tryz.func8
  (ChangeSpec.witness_shaped (enc:=enc) (C:=Tryz.checked) (os:=os) (X:=fun w _=>laidMetH Tryz.prog Rows.topOnceRow.laid w) false (World.laidAll Tryz.prog os Rows.topOnceRow.laid) #[.slice none 0 0, .string ⟨#[]⟩, .int .i64 0] 8 (World.laidAll_os _ _ _) (World.shaped_of_ZipB (by kernel_rfl) (by kernel_rfl)) (by kernel_rfl) (by kernel_rfl) (by kernel_rfl)
   (by rw [MakeChecks.laidMetH_plain _ _ _ (by kernel_rfl)];exact laidMet_laidAll _ (by kernel_rfl) (by kernel_rfl))) ?_
 intro W base args ds gs before hval hW hL hsh
 exact C9 (C:=Tryz.checked) (n:=16) rfl (by kernel_rfl) (fun ds h=>by match ds,h with | [_,_,_],_=>rfl) (by kernel_rfl) (by kernel_rfl) (by kernel_rfl) (tb:=4) (by kernel_rfl) Tryz.Cu hval hW (Tryz.tD hL hsh) (fun _ _=>trivial)
open Go.ChangeShapes Go.WideShapes Go.ChangeAt Go.RowKit in
theorem yB:Rows.TopOnceSaid:=
 OpenClaim.holds_of_wide 8 Tryz.f8 rfl rfl rfl rfl rfl rfl rfl ⟨rfl,rfl,rfl,rfl,rfl⟩ rfl rfl rfl rfl rfl (by kernel_rfl) Tryz.func8 (by kernel_rfl)
  (of_decide_eq_true (by kernel_rfl)) (by unfold Func.isWrapper;first | (rw [if_pos (by decide +kernel)];kernel_rfl) | (rw [if_neg (by decide +kernel)];exact ⟨rfl,rfl⟩))
  (fun os started H enc _=>uo os started H enc)
theorem topOnce_holds:Rows.TopOnceCardSaid:=
 Claim7.holds_tied_plain_at .later [] [.data, .data, .data, .data, .sentinel, .sentinel, .pinned] true (true,"6a9693e68608825ffcfea3137400340b6490202206f494b6fbc4e452f2b457e4") true
  yB (fun _ h=>by cases h) (by kernel_rfl) (fun _ h=>by cases h) topOnce_row_tie rfl ⟨rfl,rfl⟩ (by kernel_rfl) rfl
  (fun f fn hf hfn=>by
   obtain rfl:f=8:=Option.some.inj ((show Tryz.prog.funcNamed Rows.topOnceRow.func=some 8 by kernel_rfl).symm.trans hf) |>.symm
   obtain rfl:fn=Tryz.f8:=(Option.some.inj (Tryz.func8.symm.trans hfn)).symm
   exact ⟨by kernel_rfl,fun j t ht=>by
    have hall:(Tryz.f8.params.toList.all fun t => !Tryz.prog.wantsStandIn t)=true:=by kernel_rfl
    have hm:t∈Tryz.f8.params.toList:=Array.mem_def.1 (Array.mem_of_getElem? ht)
    exact (by simpa using List.all_eq_true.1 hall t hm:Tryz.prog.wantsStandIn t=false)⟩)
  (by kernel_rfl)
#print axioms topOnce_holds
end Go.Proofs.YtgokjhhcfemnhacGreatDoor

