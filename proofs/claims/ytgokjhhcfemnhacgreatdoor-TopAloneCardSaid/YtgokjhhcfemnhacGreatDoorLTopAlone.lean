/- A part of the proof that the law TopAloneCard holds of the given program: facts that are used there. -/
import Derived.Test.YtgokjhhcfemnhacGreatDoorPart4
import Derived.Test.YtgokjhhcfemnhacGreatDoorRows
import Derived.Test.YtgokjhhcfemnhacGreatDoorTie
import Derived.Test.YtgokjhhcfemnhacGreatDoorCards
import Derived.LaidMore
set_option linter.unusedSimpArgs false
set_option linter.unusedVariables false
set_option maxRecDepth 100000
set_option maxHeartbeats 4000000
namespace Go.Proofs.YtgokjhhcfemnhacGreatDoor
open Go.Vg Go.Mrl
noncomputable def Tryz.x9:List (FuncId × (Bool × bq)):=[(76,(true,aN [.str] [.err] (fun _=>True) (fun s=>aV (aH s)))),
 (99,(true,aN [.str] [.int .i64] (fun _=>True) (fun s=>aH s))),
 (21,(true,aN [.err] [.int .i64] (fun _=>True) (fun e=>cz e))),
 (26,(true,aN [] [.bool] (fun _=>True) (fun _=>true))),
 (27,(true,jv [aA] [.bool] (fun _=>True) (fun o y=>y=true->eD o))),
 (28,(true,aN [aA] [.str, .err] (fun _=>True) (fun o=>bu o))),
 (29,(false,ck [] [] (fun _ _=>True) Tryz.qf)),
 (30,(false,ck Tryz.bf [.obj 0, .d .str, .d .str] (fun _ x=>x.2.1.1.length<=6/\0<=x.1.1/\x.1.1<=1000000) Tryz.kK)),
 (31,(false,ck Tryz.bf [.obj 0, .d .str] (fun _ x=>x.2.1.1.length<=6) Tryz.qg)),
 (32,(true,aN [.slice .str, .slice .str] [.bool] (fun _=>True) (fun x=>ec x.1 x.2))),
 (33,(true,aN [aA,aA] [.bool] (fun _=>True) (fun x=>dN x.1 x.2))),
 (34,(false,ck Tryz.bf [.obj 0, .d .str] (fun _ x=>x.2.1.1.length<=6) Tryz.n7)),
 (35,(true,aN [.slice aA, .slice (.int .i64)] [.slice bm, .err] (fun x=>df x.1) (fun x=>bY x))),
 (36,(true,aN [eE, .slice bm] [eE, .err] (fun x=>x.1.length<=100000/\∀i,i < x.1.length->(nth cP x.1 i).length<=100000000) (fun x=>cR x))),
 (37,(true,aN [.slice (.int .i64), .slice (.int .i64)] [.bool] (fun _=>True) (fun x=>dK x.1 x.2)))]
theorem Tryz.B1:bM Tryz.prog Tryz.B Tryz.X Tryz.x9:=
 aU (aE Tryz.fA) (aU (aE Tryz.di) (aU (aE Tryz.eK) (aU (aE Tryz.Fq) (aU (eX Tryz.jK) (aU (aE Tryz.xM) (aU (Tryz.Ai) (aU (Tryz.uU) (aU (Tryz.qK) (aU (aE Tryz.pP) (aU (aE Tryz.vu) (aU (Tryz.Aq) (aU (aE Tryz.DJ) (aU (aE Tryz.DL) (aU (aE Tryz.jL) (bT Tryz.bU)))))))))))))))
theorem y8 (o:D aA) (hw:dF [aA] o):(ch Tryz.B Tryz.x9 Tryz.f4 [] [aA] [.bool] (fun _ y=>y=true) o).holds:=by
 refine holds_of (p:=
  let za:=false=true
  let zb:=true=true
  let zc:=(0:Int)<=(0:Int)
  let zd:=[(97:UInt8)]
  let ze:=bk (((0:Int),()),([],(0:Int),()),()) zd (bu o).1
  let zf:=List.length ze.1.2.1.1<=(6:Nat)
  let zg:=aP (aZ ze.1) zd
  let zh:=List.length zg.2.1
  let zi:=dt (aZ ze.1) zd
  let zj:=bY ([o],[(0:Int)])
  let zk:=(True)/\(True)/\((cz (aV zi.2) == cz zj.2)=true)
  let zl:=[o.2.1]
  let zm:=cR (zl,zj.1)
  let zn:=(↑(List.length zi.1):Int)
  let zo:=zc/\(0:Int) < zn
  let zp:=(nth dZ zi.1 (0:Nat)).2
  (True)/\(((!true)=true->(za))/\((!true)=false->(True)/\(∀x_0:Bool,((x_0=true->eD o)->(((!x_0)=true->(zb))/\((!x_0)=false->((List.length o.1<=aK)->(((decide ((↑(List.length o.1):Int) > (0:Int)))=true->(zb))/\((decide ((↑(List.length o.1):Int) > (0:Int)))=false->(True)/\(((!aS.isNil (bu o).2)=true->(zb))/\((!aS.isNil (bu o).2)=false->(True)/\((True)->(List.length (@List.nil FE)<=(6:Nat)/\zc/\(0:Int)<=(1000000:Int))/\((True)->(((!aS.isNil (aV ze.2))=true->(za))/\((!aS.isNil (aV ze.2))=false->(zf)/\((True)->(((!aS.isNil (aV zg.2.2))=true->(za))/\((!aS.isNil (aV zg.2.2))=false->(True)/\(((!ec zg.1 [zd])=true->(za))/\((!ec zg.1 [zd])=false->((zh<=aK)->((((↑zh:Int) != (1:Int))=true->(za))/\(((↑zh:Int) != (1:Int))=false->(zc/\(0:Int) < (↑zh:Int))/\(True)/\(((!dN (nth aA zg.2.1 (0:Nat)) o)=true->(za))/\((!dN (nth aA zg.2.1 (0:Nat)) o)=false->(zf)/\((True)->(df [o])/\(((!aS.isNil (aV zi.2))=true->(zk))/\((!aS.isNil (aV zi.2))=false->(((!aS.isNil zj.2)=true->(zk))/\((!aS.isNil zj.2)=false->(List.length zl<=(100000:Nat)/\∀(i:Nat),i < List.length zl->List.length (nth cP zl i)<=(100000000:Nat))/\(((aS.isNil zm.2)=true->((List.length zi.1<=aK)->(((zn == (1:Int))=true->(zo)/\(((zp.1 == (0:Int))=true->(zo)/\(zc/\(0:Int) < (↑(List.length zm.1):Int))/\(True)/\(dK zp.2.1 (nth (Ty.slice (Ty.int IntKind.i64)) zm.1 (0:Nat))=true))/\((zp.1 == (0:Int))=false->(za))))/\((zn == (1:Int))=false->(za)))))/\((aS.isNil zm.2)=false->(za)))))))))))))))))))))))))))))))))) (by kernel_rfl) ?_
 dsimp -iota -proj -eta only
 refine ⟨trivial,⟨fun h0=>absurd (show false=true from h0) (by decide),fun h0=>⟨trivial,fun x_0 q_0=>iB (fun h1=>rfl) (fun h1 h2=>iL (fun h3=>rfl) (fun h3=>⟨trivial,iB (fun h4=>rfl) (fun h4=>⟨trivial,fun h5=>⟨(by trivial),fun h6=>iB (fun h7=>(Bool.noConfusion ((qJ h4).symm.trans h7))) (fun h7=>⟨?a,fun h8=>iB (fun h9=>(absurd (congrArg (fun z=>z.2.2) (hE h4 (List.length_eq_zero_iff.1 (Nat.le_zero.1 (Int.ofNat_le.1 h3))))) (pL h9))) (fun h9=>⟨trivial,iB (fun h10=>(Bool.noConfusion ((congrArg (fun z=>ec z.1 [[97]]) (hE h4 (List.length_eq_zero_iff.1 (Nat.le_zero.1 (Int.ofNat_le.1 h3))))).symm.trans h10))) (fun h10 h11=>iN (fun h12=>(absurd (congrArg (fun z=>(List.length z.2.1:Int)) (hE h4 (List.length_eq_zero_iff.1 (Nat.le_zero.1 (Int.ofNat_le.1 h3))))) h12)) (fun h12=>⟨?b,trivial,iB (fun h13=>(Bool.noConfusion (((congrArg (fun z:List (List UInt8) × List (D aA) × Int=>dN (nth aA z.2.1 0) o) (hE h4 (List.length_eq_zero_iff.1 (Nat.le_zero.1 (Int.ofNat_le.1 h3))))).trans (show dN (nth aA [o] 0) o=true from s4 o)).symm.trans h13))) (fun h13=>⟨?c,fun h14=>⟨(BI h4),iB (fun h15=>⟨trivial,trivial,?d⟩) (fun h15=>iB (fun h16=>⟨trivial,trivial,?e⟩) (fun h16=>⟨(BJ h4),⟨fun h17 h18=>iQ (fun h19=>⟨?f,iQ (fun h20=>⟨?g,(by rw [((iy h4 (List.length_eq_zero_iff.1 (Nat.le_zero.1 (Int.ofNat_le.1 h3))) h16)).2,gW];exact ⟨Int.le_refl _,show (0:Int) < 1 by decide⟩),trivial,?h⟩) (fun h20=>(absurd (congrArg (fun z=>((nth dZ z.1 0).2.1:Int)) ((iy h4 (List.length_eq_zero_iff.1 (Nat.le_zero.1 (Int.ofNat_le.1 h3))) h16)).1) h20))⟩) (fun h19=>(absurd (congrArg (fun z=>(List.length z.1:Int)) ((iy h4 (List.length_eq_zero_iff.1 (Nat.le_zero.1 (Int.ofNat_le.1 h3))) h16)).1) h19)),fun h17=>(Bool.noConfusion ((congrArg (fun z=>z.2.isNil) ((iy h4 (List.length_eq_zero_iff.1 (Nat.le_zero.1 (Int.ofNat_le.1 h3))) h16)).2).symm.trans h17))⟩⟩))⟩⟩)⟩))⟩)⟩)⟩⟩)⟩))⟩⟩⟩
 case a|c=>exact (kJ.new.write [97] (bu o).1).st.pre.1
 case b|f|g=>omega
 case d|e=>exact beq_iff_eq.2 (Dn h4 (List.length_eq_zero_iff.1 (Nat.le_zero.1 (Int.ofNat_le.1 h3))))
 case h=>
  have e:=congrArg (fun z=>(nth dZ z.1 0).2.2.1) ((iy h4 (List.length_eq_zero_iff.1 (Nat.le_zero.1 (Int.ofNat_le.1 h3))) h16)).1
  have e2:=congrArg (fun z=>nth cP z.1 0) ((iy h4 (List.length_eq_zero_iff.1 (Nat.le_zero.1 (Int.ofNat_le.1 h3))) h16)).2
  exact decide_eq_true (e.trans e2.symm)
theorem Tryz.y9:br Tryz.prog Tryz.B.eT Tryz.X 4 [aA] [.bool] (fun _=>True) (fun _ y=>y=true):=
 bI (X:=Tryz.X) Tryz.B1 Tryz.func4 (by kernel_rfl) (fun _=>[]) (fun x hw hp=>y8 x hw)
open Go.ChangeShapes Go.WideShapes Go.ChangeAt Go.RowKit in
theorem Tryz.rO {W:World} (hL:laidMetH Tryz.prog Rows.topAloneRow.laid W) (hsh:W.ShapedOpen Tryz.prog):Tryz.Hd W:=by
 rw [MakeChecks.laidMetH_plain _ _ _ (by kernel_rfl)] at hL
 exact ⟨xx (g:=1) (t:=242) (e:=23) (n:=20) (by kernel_rfl) (by kernel_rfl) (by kernel_rfl) (by kernel_rfl) (by kernel_rfl) (by kernel_rfl) ((show (Rows.laid_internal_strconv_uint64pow10:DataW Unit)=Lib.tabData .u64 Lib.pow10Tab from by kernel_rfl)▸Lib.laidMet.reads hL (.tail _ (.tail _ (.head _)))),
  xw (g:=0) (t:=3) (zero:=#[.int .i64 0]) hsh (of_decide_eq_true (by kernel_rfl)) (by kernel_rfl) rfl (by kernel_rfl) (by kernel_rfl) (by kernel_rfl),
  mW (g:=4) (t:=36) (by kernel_rfl) (by kernel_rfl) (by kernel_rfl) (Lib.laidMet.reads hL (.tail _ (.tail _ (.tail _ (.tail _ (.tail _ (.head _))))))),
  mW (g:=5) (t:=36) (by kernel_rfl) (by kernel_rfl) (by kernel_rfl) (Lib.laidMet.reads hL (.tail _ (.tail _ (.tail _ (.tail _ (.head _))))))⟩
open Go.ChangeShapes Go.WideShapes Go.ChangeAt Go.RowKit in
set_option maxRecDepth 100000 in
theorem ta (os:Os) (started:os.Started) (H:Type) (enc:TypeId × Value->H) :
  ReturnsInHanded {} Tryz.checked os 4 .any (fun w args=>(Rows.topAloneSpec.pre enc Tryz.prog Tryz.f4 [] false w args/\laidMetH Tryz.prog Rows.topAloneRow.laid w)/\sizedMet enc Tryz.prog Tryz.f4 (OpenSpec.ofChange Rows.topAloneSpec) false w args) (Rows.topAloneSpec.post enc Tryz.prog Tryz.f4 false true false false):=by
 refine yK (C:=Tryz.checked) (X:=fun w _=>laidMetH Tryz.prog Rows.topAloneRow.laid w) (fun _ _ _ hh h=>h.of_heap hh) (by kernel_rfl) started (by kernel_rfl) Tryz.func4
  (ChangeSpec.witness_shaped (enc:=enc) (C:=Tryz.checked) (os:=os) (X:=fun w _=>laidMetH Tryz.prog Rows.topAloneRow.laid w) false (World.laidAll Tryz.prog os Rows.topAloneRow.laid) #[.agg #[.slice none 0 0, .slice none 0 0, .slice none 0 0, .slice none 0 0]] 8 (World.laidAll_os _ _ _) (World.shaped_of_ZipB (by kernel_rfl) (by kernel_rfl)) (by kernel_rfl) (by kernel_rfl) (by kernel_rfl)
   (by rw [MakeChecks.laidMetH_plain _ _ _ (by kernel_rfl)];exact laidMet_laidAll _ (by kernel_rfl) (by kernel_rfl))) ?_
 intro W base args ds gs before hval hW hL hsh
 exact CG (C:=Tryz.checked) (n:=16) rfl (by kernel_rfl) (fun ds h=>by match ds,h with | [_],_=>rfl) (by kernel_rfl) (by kernel_rfl) (by kernel_rfl) (tb:=4) (by kernel_rfl) Tryz.y9 hval hW (Tryz.rO hL hsh) (fun _ _=>trivial)
open Go.ChangeShapes Go.WideShapes Go.ChangeAt Go.RowKit in
theorem vw:Rows.TopAloneSaid:=
 OpenClaim.holds_of_wide 4 Tryz.f4 rfl rfl rfl rfl rfl rfl rfl ⟨rfl,rfl,rfl,rfl,rfl⟩ rfl rfl rfl rfl rfl (by kernel_rfl) Tryz.func4 (by kernel_rfl)
  (of_decide_eq_true (by kernel_rfl)) (by unfold Func.isWrapper;first | (rw [if_pos (by decide +kernel)];kernel_rfl) | (rw [if_neg (by decide +kernel)];exact ⟨rfl,rfl⟩))
  (fun os started H enc _=>ta os started H enc)
theorem topAlone_holds:Rows.TopAloneCardSaid:=
 Claim7.holds_tied_plain_at .later [] [.data, .data, .data, .data, .sentinel, .sentinel, .pinned] true (true,"6a9693e68608825ffcfea3137400340b6490202206f494b6fbc4e452f2b457e4") true
  vw (fun _ h=>by cases h) (by kernel_rfl) (fun _ h=>by cases h) topAlone_row_tie rfl ⟨rfl,rfl⟩ (by kernel_rfl) rfl
  (fun f fn hf hfn=>by
   obtain rfl:f=4:=Option.some.inj ((show Tryz.prog.funcNamed Rows.topAloneRow.func=some 4 by kernel_rfl).symm.trans hf) |>.symm
   obtain rfl:fn=Tryz.f4:=(Option.some.inj (Tryz.func4.symm.trans hfn)).symm
   exact ⟨by kernel_rfl,fun j t ht=>by
    have hall:(Tryz.f4.params.toList.all fun t => !Tryz.prog.wantsStandIn t)=true:=by kernel_rfl
    have hm:t∈Tryz.f4.params.toList:=Array.mem_def.1 (Array.mem_of_getElem? ht)
    exact (by simpa using List.all_eq_true.1 hall t hm:Tryz.prog.wantsStandIn t=false)⟩)
  (by kernel_rfl)
#print axioms topAlone_holds
end Go.Proofs.YtgokjhhcfemnhacGreatDoor

