/- A part of the proof that the law ScopeSaysCard holds of the given program: facts that are used there. -/
import Derived.Test.YtgokjhhcfemnhaaGreatDoorPart5
import Derived.Test.YtgokjhhcfemnhaaGreatDoorRows
import Derived.Test.YtgokjhhcfemnhaaGreatDoorTie
import Derived.Test.YtgokjhhcfemnhaaGreatDoorCards
import Derived.LaidMore
set_option linter.unusedSimpArgs false
set_option linter.unusedVariables false
set_option maxRecDepth 100000
set_option maxHeartbeats 4000000
namespace Go.Proofs.YtgokjhhcfemnhaaGreatDoor
open Go.Vg Go.Mrl
noncomputable def Tryz.xn:List (FuncId × (Bool × bQ)):=[(87,(true,aM [.str] [.err] (fun _=>True) (fun s=>aX (aI s)))),
 (94,(true,aM [.str] [.int .i64] (fun _=>True) (fun s=>aI s))),
 (9,(true,aM [.err, .int .i64] [.bool] (fun _=>True) (fun x=>cV x.1 x.2))),
 (58,(false,bG [] [] (fun _ _=>True) Tryz.rD)),
 (59,(false,bG Tryz.bz [.obj 0, .d .str, .d .str] (fun _ x=>x.2.1.1.length<=6/\0<=x.1.1/\x.1.1<=1000000) Tryz.lJ)),
 (25,(false,bG Tryz.bz [.obj 0, .d .str] (fun _ x=>x.2.1.1.length<=6) Tryz.rE)),
 (27,(true,aM [.slice aA, .str] [.int .i64, .int .i64] (fun _=>True) (fun x=>dU x))),
 (19,(true,aM [.slice .str, .slice .str] [.bool] (fun _=>True) (fun x=>cZ x.1 x.2)))]
theorem Tryz.BD:bZ Tryz.prog Tryz.B Tryz.X Tryz.xn:=
 aO (aG Tryz.fU) (aO (aG Tryz.dJ) (aO (aG Tryz.gH) (aO (Tryz.Cm) (aO (Tryz.wU) (aO (Tryz.sa) (aO (aG Tryz.AA) (aO (aG Tryz.kb) (cm Tryz.cn))))))))
theorem FU  (hw:ec [] ()):(cD Tryz.B Tryz.xn Tryz.f22 [] [] [.bool] (fun x y=>y=(fun _=>true) x) ()).holds:=by
 refine holds_of (p:=
  let za:=!cg.isNil (aX (0:Int))
  let zb:=false=true
  let zc:=[(97:UInt8)]
  let zd:=(0:Int) + (1:Int)
  let ze:=dF cq (@List.nil FE) zc ([(110:UInt8),101,101,100,32,98,10,119,111,114,100,32,49,10],zd,()) (0:Int)
  let zf:=(zd + (1:Int),())
  let zg:=gI cq (@List.nil FE) zc (0:Int)
  let zh:=dF cq ze [(98:UInt8)] ([(119:UInt8),111,114,100,32,50,10,115,121,109,98,111,108,32,120,32,48,10],zf) zg
  let zi:=ck (bF (zf,(zh,gI cq ze [(98:UInt8)] zg,()),())) zc
  let zj:=List.length zi.2.1
  let zk:=dU (zi.2.1,[(120:UInt8)])
  (True)/\((True)->(List.length (@List.nil FE)<=(6:Nat)/\(0:Int)<=(0:Int)/\(0:Int)<=(1000000:Int))/\((True)->(((za)=true->(zb))/\((za)=false->(List.length ze<=(6:Nat)/\(0:Int)<=zd/\zd<=(1000000:Int))/\((True)->(((za)=true->(zb))/\((za)=false->(List.length zh<=(6:Nat))/\((True)->(True)/\(True)/\(((cV (aX zi.2.2) (0:Int))=true->(True)/\(((cZ zi.1 [zc,[(98:UInt8)]])=true->((zj<=aH)->((((↑zj:Int) == (2:Int))=true->(((zk.1 == (1:Int))=true->((zk.2 == (0:Int))=true))/\((zk.1 == (1:Int))=false->(zb))))/\(((↑zj:Int) == (2:Int))=false->(zb)))))/\((cZ zi.1 [zc,[(98:UInt8)]])=false->(zb))))/\((cV (aX zi.2.2) (0:Int))=false->(zb)))))))))))) (by kernel_rfl) ?_
 dsimp -iota -proj -eta only
 refine ⟨trivial,fun h0=>⟨?a,fun h1=>⟨fun h2=>absurd (show false=true from h2) (by decide),fun h2=>⟨?b,fun h3=>⟨fun h4=>absurd (show false=true from h4) (by decide),fun h4=>⟨?c,fun h5=>⟨trivial,trivial,⟨fun h6=>⟨trivial,⟨fun h7 h8=>iQ (fun h9=>iQ (fun h10=>(by exact (show ((dU ((ck (bF zW) [97]).2.1,[120])).2 == 0)=true by rw [qV,Cj];rfl))) (fun h10=>(absurd (show (dU ((ck (bF zW) [97]).2.1,[120])).1=1 by rw [qV,Cj]) h10))) (fun h9=>(by exact absurd (show ((ck (bF zW) [97]).2.1.length:Int)=2 by rw [qV];rfl) h9)),fun h7=>(Bool.noConfusion ((show cZ (ck (bF zW) [97]).1 [[97],[98]]=true by rw [qV];exact decide_eq_true rfl).symm.trans h7))⟩⟩,fun h6=>(by exact Bool.noConfusion ((show cV (aX (ck (bF zW) [97]).2.2) 0=true by rw [qV];rfl).symm.trans h6))⟩⟩⟩⟩⟩⟩⟩⟩
 case a|b|c=>trivial
theorem Tryz.FV:bI Tryz.prog Tryz.B.eT Tryz.X 22 [] [.bool] (fun _=>True) (fun x y=>y=(fun _=>true) x):=
 bU (X:=Tryz.X) Tryz.BD Tryz.func22 (by kernel_rfl) (fun _=>[]) (fun x hw hp=>FU  hw)
noncomputable def Tryz.xp:List (FuncId × (Bool × bQ)):=[(87,(true,aM [.str] [.err] (fun _=>True) (fun s=>aX (aI s)))),
 (94,(true,aM [.str] [.int .i64] (fun _=>True) (fun s=>aI s))),
 (9,(true,aM [.err, .int .i64] [.bool] (fun _=>True) (fun x=>cV x.1 x.2))),
 (22,(true,aM [] [.bool] (fun _=>True) (fun _=>true))),
 (7,(true,fq [.slice bB, .int .i64] [.bool] (fun _=>True) (fun x y=>y=true->ku x.1 x.2))),
 (23,(true,fq [.slice aA] [.bool] (fun _=>True) (fun l y=>y=true->lO l))),
 (24,(false,bG [] [.d (.slice bB)] (fun _ _=>True) Tryz.q0)),
 (25,(false,bG Tryz.bz [.obj 0, .d .str] (fun _ x=>x.2.1.1.length<=6) Tryz.rE)),
 (26,(false,bG Tryz.aZ [.obj 0, .d .str] (fun _ x=>x.1.1.length<=6) Tryz.pw)),
 (27,(true,aM [.slice aA, .str] [.int .i64, .int .i64] (fun _=>True) (fun x=>dU x))),
 (28,(true,aM [.slice aA, .str] [.int .i64, .int .i64] (fun _=>True) (fun x=>dU x))),
 (19,(true,aM [.slice .str, .slice .str] [.bool] (fun _=>True) (fun x=>cZ x.1 x.2))),
 (29,(true,fq [.slice aA, .slice aA] [.bool] (fun _=>True) (fun x y=>x.1=x.2->y=true)))]
theorem Tryz.BE:bZ Tryz.prog Tryz.B Tryz.X Tryz.xp:=
 aO (aG Tryz.fU) (aO (aG Tryz.dJ) (aO (aG Tryz.gH) (aO (aG Tryz.FV) (aO (da Tryz.qZ) (aO (da Tryz.uQ) (aO (Tryz.Hn) (aO (Tryz.sa) (aO (Tryz.Bz) (aO (aG Tryz.AA) (aO (aG Tryz.Hq) (aO (aG Tryz.kb) (aO (da Tryz.vz) (cm Tryz.cn)))))))))))))
theorem AD (l:List (D bB)) (s:List UInt8) (o:List (D aA)) (t:List UInt8) (hw:ec [.slice bB, .str, .slice aA, .str] (l,s,o,t)):(cD Tryz.B Tryz.xp Tryz.f4 [] [.slice bB, .str, .slice aA, .str] [.bool] (fun _ y=>y=true) (l,s,o,t)).holds:=by
 refine holds_of (p:=
  let za:=true=true
  let zb:=false=true
  let zc:=ck (bF (dM l).1) s
  let zd:=ck (bX (dM l).2.1) s
  let ze:=dU (o,t)
  (True)/\(((!true)=true->(za))/\((!true)=false->(True)/\(∀x_0:Bool,((x_0=true->ku l (30:Int))->(((!x_0)=true->(za))/\((!x_0)=false->((List.length s<=aH)->(((decide ((↑(List.length s):Int) > (50:Int)))=true->(za))/\((decide ((↑(List.length s):Int) > (50:Int)))=false->(True)/\(∀x_1:Bool,((x_1=true->lO o)->(((!x_1)=true->(za))/\((!x_1)=false->((List.length t<=aH)->(((decide ((↑(List.length t):Int) > (50:Int)))=true->(za))/\((decide ((↑(List.length t):Int) > (50:Int)))=false->(True)/\((True)->(((!true)=true->(zb))/\((!true)=false->(List.length (dM l).1.2.1.1<=(6:Nat))/\((True)->(List.length (dM l).2.1<=(6:Nat))/\((True)->(True)/\(True)/\(True)/\(((cV (aX zc.2.2) zd.2.2)=true->(True)/\(((cZ zc.1 zd.1)=true->(True)/\(∀x_2:Bool,((zc.2.1=zd.2.1->x_2=true)->(((x_2)=true->(((ze.1 == ze.1)=true->((ze.2 == ze.2)=true))/\((ze.1 == ze.1)=false->(zb))))/\((x_2)=false->(zb))))))/\((cZ zc.1 zd.1)=false->(zb))))/\((cV (aX zc.2.2) zd.2.2)=false->(zb))))))))))))))))))))))))) (by kernel_rfl) ?_
 dsimp -iota -proj -eta only
 exact ⟨trivial,⟨fun h0=>absurd (show false=true from h0) (by decide),fun h0=>⟨trivial,fun x_0 q_0=>iB (fun h1=>rfl) (fun h1 h2=>iL (fun h3=>rfl) (fun h3=>⟨trivial,fun x_1 q_1=>iB (fun h4=>rfl) (fun h4 h5=>iL (fun h6=>rfl) (fun h6=>⟨trivial,fun h7=>⟨fun h8=>absurd (show false=true from h8) (by decide),fun h8=>⟨((cB l).len),fun h9=>⟨((cB l).HG),fun h10=>⟨trivial,trivial,trivial,⟨fun h11=>⟨trivial,⟨fun h12=>⟨trivial,fun x_2 q_2=>⟨fun h13=>iQ (fun h14=>(by simp_all)) (fun h14=>(by simp at h14)),fun h13=>(absurd (q_2 (by rw [(aW.scope (cB l) s)])) (by rw [h13];exact Bool.false_ne_true))⟩⟩,fun h12=>(by rw [(aW.scope (cB l) s)] at h12;exact Bool.noConfusion ((show cZ _ _=true from decide_eq_true rfl).symm.trans h12))⟩⟩,fun h11=>(by rw [(aW.scope (cB l) s)] at h11;exact Bool.noConfusion ((kN (zX (gy (aW.HG (cB l))) s)).symm.trans h11))⟩⟩⟩⟩⟩⟩))⟩))⟩⟩⟩
theorem Tryz.AE:bI Tryz.prog Tryz.B.eT Tryz.X 4 [.slice bB, .str, .slice aA, .str] [.bool] (fun _=>True) (fun _ y=>y=true):=
 bU (X:=Tryz.X) Tryz.BE Tryz.func4 (by kernel_rfl) (fun _=>[]) (fun x hw hp=>AD x.1 x.2.1 x.2.2.1 x.2.2.2 hw)
open Go.ChangeShapes Go.WideShapes Go.ChangeAt Go.RowKit in
theorem Tryz.rI {W:World} (hL:laidMetH Tryz.prog Rows.scopeSaysRow.laid W) (hsh:W.ShapedOpen Tryz.prog):Tryz.Jl W:=by
 rw [MakeChecks.laidMetH_plain _ _ _ (by kernel_rfl)] at hL
 exact ⟨zV (g:=5) (t:=283) (e:=39) (n:=20) (by kernel_rfl) (by kernel_rfl) (by kernel_rfl) (by kernel_rfl) (by kernel_rfl) (by kernel_rfl) ((show (Rows.laid_internal_strconv_uint64pow10:DataW Unit)=Lib.tabData .u64 Lib.pow10Tab from by kernel_rfl)▸Lib.laidMet.reads hL (.tail _ (.tail _ (.head _)))),
  zU (g:=0) (t:=3) (zero:=#[.int .i64 0]) hsh (of_decide_eq_true (by kernel_rfl)) (by kernel_rfl) rfl (by kernel_rfl) (by kernel_rfl) (by kernel_rfl),
  n9 (g:=3) (t:=27) (by kernel_rfl) (by kernel_rfl) (by kernel_rfl) (Lib.laidMet.reads hL (.tail _ (.tail _ (.tail _ (.tail _ (.tail _ (.head _))))))),
  n9 (g:=4) (t:=27) (by kernel_rfl) (by kernel_rfl) (by kernel_rfl) (Lib.laidMet.reads hL (.tail _ (.tail _ (.tail _ (.tail _ (.head _))))))⟩
open Go.ChangeShapes Go.WideShapes Go.ChangeAt Go.RowKit in
set_option maxRecDepth 100000 in
theorem tf (os:Os) (started:os.Started) (H:Type) (enc:TypeId × Value->H) :
  ReturnsInHanded {} Tryz.checked os 4 .any (fun w args=>(Rows.scopeSaysSpec.pre enc Tryz.prog Tryz.f4 [] false w args/\laidMetH Tryz.prog Rows.scopeSaysRow.laid w)/\sizedMet enc Tryz.prog Tryz.f4 (OpenSpec.ofChange Rows.scopeSaysSpec) false w args) (Rows.scopeSaysSpec.post enc Tryz.prog Tryz.f4 false true false false):=by
 refine Bg (C:=Tryz.checked) (X:=fun w _=>laidMetH Tryz.prog Rows.scopeSaysRow.laid w) (fun _ _ _ hh h=>h.of_heap hh) (by kernel_rfl) started (by kernel_rfl) Tryz.func4
  (ChangeSpec.witness_shaped (enc:=enc) (C:=Tryz.checked) (os:=os) (X:=fun w _=>laidMetH Tryz.prog Rows.scopeSaysRow.laid w) false (World.laidAll Tryz.prog os Rows.scopeSaysRow.laid) #[.slice none 0 0, .string ⟨#[]⟩, .slice none 0 0, .string ⟨#[]⟩] 8 (World.laidAll_os _ _ _) (World.shaped_of_ZipB (by kernel_rfl) (by kernel_rfl)) (by kernel_rfl) (by kernel_rfl) (by kernel_rfl)
   (by rw [MakeChecks.laidMetH_plain _ _ _ (by kernel_rfl)];exact laidMet_laidAll _ (by kernel_rfl) (by kernel_rfl))) ?_
 intro W base args ds gs before hval hW hL hsh
 exact EJ (C:=Tryz.checked) (n:=16) rfl (by kernel_rfl) (fun ds h=>by match ds,h with | [_,_,_,_],_=>rfl) (by kernel_rfl) (by kernel_rfl) (by kernel_rfl) (tb:=4) (by kernel_rfl) Tryz.AE hval hW (Tryz.rI hL hsh) (fun _ _=>trivial)
open Go.ChangeShapes Go.WideShapes Go.ChangeAt Go.RowKit in
theorem vC:Rows.ScopeSaysSaid:=
 OpenClaim.holds_of_wide 4 Tryz.f4 rfl rfl rfl rfl rfl rfl rfl ⟨rfl,rfl,rfl,rfl,rfl⟩ rfl rfl rfl rfl rfl (by kernel_rfl) Tryz.func4 (by kernel_rfl)
  (of_decide_eq_true (by kernel_rfl)) (by unfold Func.isWrapper;first | (rw [if_pos (by decide +kernel)];kernel_rfl) | (rw [if_neg (by decide +kernel)];exact ⟨rfl,rfl⟩))
  (fun os started H enc _=>tf os started H enc)
theorem scopeSays_holds:Rows.ScopeSaysCardSaid:=
 Claim7.holds_tied_plain_at .later [] [.data, .data, .data, .data, .sentinel, .sentinel, .pinned] true (true,"e38ec6478babe08333945fe4633e79946dcc9369f26e0deb9e463de81cb3737d") true
  vC (fun _ h=>by cases h) (by kernel_rfl) (fun _ h=>by cases h) scopeSays_row_tie rfl ⟨rfl,rfl⟩ (by kernel_rfl) rfl
  (fun f fn hf hfn=>by
   obtain rfl:f=4:=Option.some.inj ((show Tryz.prog.funcNamed Rows.scopeSaysRow.func=some 4 by kernel_rfl).symm.trans hf) |>.symm
   obtain rfl:fn=Tryz.f4:=(Option.some.inj (Tryz.func4.symm.trans hfn)).symm
   exact ⟨by kernel_rfl,fun j t ht=>by
    have hall:(Tryz.f4.params.toList.all fun t => !Tryz.prog.wantsStandIn t)=true:=by kernel_rfl
    have hm:t∈Tryz.f4.params.toList:=Array.mem_def.1 (Array.mem_of_getElem? ht)
    exact (by simpa using List.all_eq_true.1 hall t hm:Tryz.prog.wantsStandIn t=false)⟩)
  (by kernel_rfl)
#print axioms scopeSays_holds
end Go.Proofs.YtgokjhhcfemnhaaGreatDoor

