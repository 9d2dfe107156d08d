/- The law ConsoleSays holds of the given program, as its card states it: for any lines, what a session answers is what the document answers. No condition but the card's own. -/
import Derived.Test.YtgokjhhcfemnhabGreatDoorPart6
import Derived.Test.YtgokjhhcfemnhabGreatDoorRows
import Derived.Test.YtgokjhhcfemnhabGreatDoorTie
import Derived.Test.YtgokjhhcfemnhabGreatDoorCards
import Derived.LaidMore
set_option linter.unusedSimpArgs false
set_option linter.unusedVariables false
set_option maxRecDepth 100000
set_option maxHeartbeats 4000000
set_option linter.defProp false
noncomputable section
open True renaming intro->aa
open List renaming length->ab,nil->ad,drop->ag,take->ah,length_singleton->ai
open Go.Proofs.YtgokjhhcfemnhabGreatDoor.Rows renaming consoleSaysRow->ae,consoleSaysSpec->ak
open Bool renaming noConfusion->af
open Go.Lib.laidMet renaming reads->aj
open Go.MakeChecks renaming laidMetH_plain->al
open Option.some renaming inj->ao
open Bool renaming false->ψ,true->φ
open Option renaming some->ξ,none->χ
open Decidable renaming decide->ρ
namespace Go.Proofs.YtgokjhhcfemnhabGreatDoor
open Go.Proofs.Tryz
open Go.Vg Go.Mrl
def R4:List (FuncId×(Bool×aL)):=[(49,(φ,jD)),(50,(φ,fO)),(156,(φ,kG)),(83,(φ,jq)),(11,(φ,lk)),(43,(φ,RN)),(23,(φ,wb))]
theorem YY:bH prog aE aH R4:=
 aM kx (aM gA (aM lj (aM jE (aM lO (aM acY (aM CL (bK bJ)))))))
theorem agt  : (cH aE R4 f42 [] [] [.bool] (fun x y=>y=(fun _=>φ) x) ()).holds:=by
 refine ζ (p:=let za:=[108,111,97,100,32,97];let zb:=[[108,105,110,101,32,119,111,114,100,32,53],[108,105,110,101,32,98,97,115,101,32,48,32,51],[111,98,106,101,99,116],[119,114,105,116,101,32,97],za,[98,117,105,108,100,32,97],za,[101,110,116,114,121,32,97],[102,108,121,32,104,105,103,104]];let zc:=[111,107];(ab zb<=70/\∀(i:Nat),i<ab zb->ab (nth Ty.str zb i)<=100/\¬sk (nth Ty.str zb i))/\True/\((nf (nv zb).2 0)=φ->True/\oE (nv zb).1 [zc,zc,[49,32,119,111,114,100,115],zc,[110,101,119,32,97,32,48,58,32,51],zc,[107,101,112,116,32,97,32,48,58,32,51],[97,32,49,32,49,32,97,32,49,32,48,32,48,32,48,32,51],[101,114,114,111,114,32,52]]=φ)/\((nf (nv zb).2 0)=ψ->ψ=φ)) κ ?_
 dsimp -iota -proj -eta only;exact⟨ajs,aa,⟨fun h0=>⟨aa,(FG (congrArg (fun z=>z.1) Qg))⟩,fun h0=>(af ((congrArg (fun z:List aA×aR=>nf z.2 0) Qg).symm.trans h0))⟩⟩
def R5:aL:=bP [] [.bool] (fun _=>True) (fun _=>φ)
theorem agu:aW prog aE.eT aH 42 φ R5:=
 aI (bO (X:=aH) YY func42 κ (fun _=>[]) (fun x hw hp=>agt))
def EA:List (FuncId×(Bool×aL)):=[(49,(φ,jD)),(50,(φ,fO)),(156,(φ,kG)),(83,(φ,jq)),(11,(φ,lk)),(42,(φ,R5)),(43,(φ,RN)),(44,(ψ,VZ)),(23,(φ,wb))]
theorem Nl:bH prog aE aH EA:=
 aM kx (aM gA (aM lj (aM jE (aM lO (aM agu (aM acY (aM aix (aM CL (bK bJ)))))))))
def EB(l:List aA):cP:=[
 (0,fun st=>{X:=Nat,inv:=fun i=>i<=ab l/\∀j,j<i->(nth .str l j).length<=100/\¬sk (nth .str l j),bG:=fun i=>ab l-i,bB:=fun i=>[(4,sI i)],keep:=[0]}),
 (200002,fun st=>{X:=Nat,inv:=fun i=>i<=ab l,bG:=fun i=>ab l-i,bB:=fun i=>[(10,sI i),(9,.s (.one (.app .str (dB l i).1 (aS st 9))))],aK:=fun i=>[(aS st 9,.tok .str (dB l i).1)],dU:=[aS st 9],keep:=[0,2,5,6,7,8],aY:=tf,refs:=[(8,0)],pd:=fun i=>(((dB l i).2.1,()),(dB l i).2.2.1,((dB l i).2.2.2,()),())})]
theorem Jy(l:List aA):(cH (gy aE [92]) EA Tryz.f5 (EB l) [.slice .str] [.bool] (fun _ y=>y=φ) l).holds:=by
 refine ζ (p:=let za:=φ=φ;let zb:=ab l;let zc:=zb<=aG;let zd:=(↑zb:Int);let ze:=fun(E:Nat)=>(0:Int)<=(↑E:Int)/\(↑E:Int)<zd;let zf:=fun(E:Nat)=>ab (nth Ty.str l E);let zg:=(0:Int)<=(0:Int);let zh:=fun(E:Nat)=>(↑E:Int)+(1:Int);let zi:=fun(E:Nat)=>aF (↑E:Int)->aF (1:Int)->aF (zh E)/\∃(x':Nat),(x'<=zb/\∀(j:Nat),j<x'->ab (nth Ty.str l j)<=100/\¬sk (nth Ty.str l j))/\zb-x'<zb-E/\(zh E=(↑x':Int)/\True)/\True;let zj:=[[(109:UInt8),97,114,107]];let zk:=l++zj;let zl:=ag 0 (ah zb zk);let zm:=ab (nv zl).1;let zn:=ψ=φ;let zo:=@ad (aA×List (aA×Int×Int×Unit)×List (Int×Int×Int×Unit)×Unit)=@ad (aA×List (aA×Int×Int×Unit)×List (Int×Int×Int×Unit)×Unit)/\@ad (aA×aA×Int×Unit)=@ad (aA×aA×Int×Unit)/\zk=zk/\True;let zp:=!ψ;let zq:=(zp&&(zp&&(zp&&(zp&&φ))))=φ;let zr:=fun(F:Nat)=>(dB l F).1;let zs:=fun(F:Nat)=>iC (nth Ty.str l F) (dB l F).2.1 (dB l F).2.2.1 (dB l F).2.2.2;True/\((!φ)=φ->za)/\((!φ)=ψ->zc->((ρ (zd > (70:Int)))=φ->za)/\((ρ (zd > (70:Int)))=ψ->(∃(x:Nat),(x<=zb/\∀(j:Nat),j<x->ab (nth Ty.str l j)<=100/\¬sk (nth Ty.str l j))/\((0:Int)=(↑x:Int)/\True)/\True)/\∀E:Nat,(E<=zb/\∀(j:Nat),j<E->ab (nth Ty.str l j)<=100/\¬sk (nth Ty.str l j))->zc->((ρ ((↑E:Int)<zd))=φ->ze E/\(zf E<=aG->((ρ ((↑(zf E):Int) > (100:Int)))=φ->za)/\((ρ ((↑(zf E):Int) > (100:Int)))=ψ->ze E/\(zf E<=aG->((ρ ((↑(zf E):Int) > (3:Int)))=φ->ze E/\(zg/\(0:Int)<=(4:Int)/\(4:Int)<=(↑(zf E):Int))/\((ag 0 (ah 4 (nth Ty.str l E)) == [(97:UInt8),114,109,32])=φ->za)/\((ag 0 (ah 4 (nth Ty.str l E)) == [(97:UInt8),114,109,32])=ψ->zi E))/\((ρ ((↑(zf E):Int) > (3:Int)))=ψ->zi E)))))/\((ρ ((↑E:Int)<zd))=ψ->zb<=1000000000/\(l=l/\zb+ab zj<=1000000000)/\(zc->(zg/\(0:Int)<=zd/\zd<=(↑(ab zk):Int))/\(ab zl<=70/\∀(i:Nat),i<ab zl->ab (nth Ty.str zl i)<=100/\¬sk (nth Ty.str zl i))/\(zc->((ρ (zd > (60:Int)))=φ->True/\((nf (nv zl).2 (2:Int))=φ->zm<=aG->((↑zm:Int) == (0:Int))=φ)/\((nf (nv zl).2 (2:Int))=ψ->zn))/\((ρ (zd > (60:Int)))=ψ->(∃(x':Nat),x'<=zb/\True/\((0:Int)=(↑x':Int)/\@ad aA=(dB l x').1/\True)/\(@ad aA=(dB l x').1/\zo)/\zq/\(([],()),([],(0:Int),()),([],()),())=(((dB l x').2.1,()),(dB l x').2.2.1,((dB l x').2.2.2,()),()))/\∀F:Nat,F<=zb->zc->((ρ ((↑F:Int)<zd))=φ->ze F/\(zf F<=100/\uy (dB l F).2.1 (dB l F).2.2.1 (dB l F).2.2.2)/\(True->(zr F=zr F/\ab (zr F)+ab [(zs F).1]<=1000000000)/\(aF (↑F:Int)->aF (1:Int)->aF (zh F)/\∃(x':Nat),x'<=zb/\zb-x'<zb-F/\(zh F=(↑x':Int)/\zr F++[(zs F).1]=(dB l x').1/\True)/\(zr F++[(zs F).1]=(dB l x').1/\zo)/\zq/\(((zs F).2.1,()),(zs F).2.2.1,((zs F).2.2.2,()),())=(((dB l x').2.1,()),(dB l x').2.2.1,((dB l x').2.2.2,()),()))))/\((ρ ((↑F:Int)<zd))=ψ->True/\((nf (nv zl).2 (0:Int))=φ->True/\((oE (nv zl).1 (zr F))=φ->True/\oE zl l=φ)/\((oE (nv zl).1 (zr F))=ψ->zn))/\((nf (nv zl).2 (0:Int))=ψ->zn))))))))) κ ?_
 dsimp -iota -proj -eta only;refine⟨aa,⟨fun h0=>absurd (show ψ=φ from h0) δ,fun h0 h1=>iL (fun h2=>rfl) (fun h2=>⟨(⟨0,⟨Nat.zero_le _,fun j hj=>absurd hj (Nat.not_lt_zero _)⟩,⟨rfl,aa⟩,aa⟩),fun E q_0 h3=>iL (fun h4=>⟨?a,fun h5=>iL (fun h6=>rfl) (fun h6=>⟨?b,fun h7=>iL (fun h8=>⟨?c,θ,iQ (fun h9=>rfl) (fun h9 h10 h11=>⟨?d,(⟨E+1,⟨ω,jM q_0.2 ⟨ω,fun z=>h9 z.2⟩⟩,ω,⟨ω,aa⟩,aa⟩)⟩)⟩) (fun h8 h9 h10=>⟨?e,(by exact⟨E+1,⟨ω,jM q_0.2 ⟨ω,fun z=>by have:=z.1;omega⟩⟩,ω,⟨ω,aa⟩,aa⟩)⟩)⟩)⟩) (fun h4=>⟨?f,(by exact⟨rfl,by simp only[ai];omega⟩),fun h5=>⟨(by simp only[List.length_append,ai];omega),(by rw[yt];exact⟨ω,fun i hi=>q_0.2 i ω⟩),fun h6=>iL (fun h7=>⟨aa,⟨fun h8 h9=>(by rw[yt,Ap ω];rfl),fun h8=>(by rw[yt,Ap ω]at h8;exact absurd h8 δ)⟩⟩) (fun h7=>⟨(⟨0,Nat.zero_le _,aa,⟨rfl,rfl,aa⟩,⟨rfl,θ⟩,rfl,rfl⟩),fun F q_1 h8=>iL (fun h9=>⟨?g,⟨(q_0.2 F ω).1,abj l ω⟩,fun h10=>⟨(by have:=FJ l F;exact⟨rfl,by simp only[ai];omega⟩),fun h11 h12=>⟨?h,(⟨F+1,ω,ω,⟨ω,rfl,aa⟩,⟨rfl,θ⟩,rfl,rfl⟩)⟩⟩⟩) (fun h9=>⟨aa,⟨fun h10=>⟨aa,⟨fun h11=>⟨aa,(FG (yt _ _))⟩,fun h11=>(by rw[yt,uV ω,show F=l.length by omega]at h11;exact af ((FG rfl).symm.trans h11))⟩⟩,fun h10=>(by rw[yt,uV ω]at h10;exact af h10)⟩⟩)⟩)⟩⟩)⟩)⟩⟩
 case a|b|c|f|g=>omega
 case d|e|h=>simp only[aF,aG]at*;omega
theorem Jz:jj prog aE.eT aH 5 [.slice .str] [.bool] (fun _=>True) (fun _ y=>y=φ):=
 bO (B:=(gy aE [92])) (X:=aH) (bH.hint (l:=[92]) Nl) func5 κ (fun x=>EB x) (fun x hw hp=>Jy x)
open Go.ChangeShapes Go.WideShapes Go.ChangeAt Go.RowKit in
theorem AW{W:World}(hL:laidMetH prog ae.laid W)(hsh:W.ShapedOpen prog):aju W:=by
 rw[al _ _ _ κ]at hL;exact⟨Qo (g:=0) (t:=286) (e:=44) (n:=20) κ κ κ κ κ κ ((show(Rows.laid_internal_strconv_uint64pow10:DataW Unit)=Lib.tabData .u64 Lib.pow10Tab from by kernel_rfl)▸aj hL (.tail _ (.tail _ (.head _)))),
  Qn (g:=1) (t:=3) (zero:=#[.int .i64 0]) hsh (of_decide_eq_true κ) κ rfl κ κ κ,
  yu (g:=2) (t:=33) κ κ κ (aj hL (.tail _ (.tail _ (.tail _ (.tail _ (.tail _ (.head _))))))),
  yu (g:=3) (t:=33) κ κ κ (aj hL (.tail _ (.tail _ (.tail _ (.tail _ (.head _))))))⟩
open Go.ChangeShapes Go.WideShapes Go.ChangeAt Go.RowKit in
set_option maxRecDepth 100000 in
theorem CP(os:Os)(started:os.Started)(H:Type)(enc:TypeId×Value->H) :
  ReturnsInHanded {} checked os 5 .any (fun w args=>(ak.pre enc prog Tryz.f5 [] ψ w args/\laidMetH prog ae.laid w)/\sizedMet enc prog Tryz.f5 (OpenSpec.ofChange ak) ψ w args) (ak.post enc prog Tryz.f5 ψ φ ψ ψ):=by
 refine S8 (C:=checked) (X:=fun w _=>laidMetH prog ae.laid w) (fun _ _ _ hh h=>h.of_heap hh) κ started κ func5
  (ChangeSpec.witness_shaped (enc:=enc) (C:=checked) (os:=os) (X:=fun w _=>laidMetH prog ae.laid w) ψ (World.laidAll prog os ae.laid) #[.slice χ 0 0] 8 (World.laidAll_os _ _ _) (World.shaped_of_ZipB κ κ) κ κ κ
   (by rw[al _ _ _ κ];exact laidMet_laidAll _ κ κ)) ?_
 intro W base args ds gs before hval hW hL hsh;exact ZC (C:=checked) (n:=16) rfl κ (fun ds h=>by match ds,h with|[_],_=>rfl) κ κ κ (tb:=4) κ Jz hval hW (AW hL hsh) (fun _ _=>trivial)
open Go.ChangeShapes Go.WideShapes Go.ChangeAt Go.RowKit in
theorem FW:Rows.ConsoleSaysSaid:=
 OpenClaim.holds_of_wide 5 Tryz.f5 rfl rfl rfl rfl rfl rfl rfl ⟨rfl,rfl,rfl,rfl,rfl⟩ rfl rfl rfl rfl rfl κ func5 κ
  (of_decide_eq_true κ) (by unfold Func.isWrapper;first|(rw[π (by decide+kernel)];kernel_rfl)|(rw[ε (by decide+kernel)];exact⟨rfl,rfl⟩))
  (fun os started H enc _=>CP os started H enc)
theorem consoleSays_holds:Rows.ConsoleSaysCardSaid:=
 Claim7.holds_tied_plain_at .later [] [.data,.data,.data,.data,.sentinel,.sentinel,.pinned] φ (φ,"64b551b93bc23007624950252e9486f0c7d9283b8d81061eb003e81ef0f36483") φ
  FW (fun _ h=>by cases h) κ (fun _ h=>by cases h) consoleSays_row_tie rfl ⟨rfl,rfl⟩ κ rfl
  (fun f fn hf hfn=>by
   obtain rfl:f=5:=ao ((show prog.funcNamed ae.func=ξ 5 by kernel_rfl).symm.trans hf) |>.symm
   obtain rfl:fn=Tryz.f5:=(ao (func5.symm.trans hfn)).symm;exact⟨κ,fun j t ht=>by
    have hall:(Tryz.f5.params.toList.all fun t =>!prog.wantsStandIn t)=φ:=by kernel_rfl
    have hm:t∈Tryz.f5.params.toList:=Array.mem_def.1 (Array.mem_of_getElem? ht);exact(by simpa using List.all_eq_true.1 hall t hm:prog.wantsStandIn t=ψ)⟩)
  κ
#print axioms consoleSays_holds
end Go.Proofs.YtgokjhhcfemnhabGreatDoor

