/- Texts of one chain, merged. -/
import Derived.Test.YtechdefolfboeaaGreatDoorRows
import Derived.ProofKit
import Derived.LaidMore
import Derived.OpenShut
import Derived.Stop.Joined
import Derived.MakeChecks
import Derived.Lib.LaidTab
import Derived.SevenTiedAt
import Derived.Test.YtechdefolfboeaaGreatDoorQr13
import Derived.Test.YtechdefolfboeaaGreatDoorQr31
namespace Go.Proofs.YtechdefolfboeaaGreatDoor
open Go Go.ChangeShapes Go.WideShapes Go.ChangeAt Go.RowKit B
set_option linter.unusedVariables false
set_option maxRecDepth 100000
theorem and_of {a b:Bool} (ha:a=true) (hb:b=true):(a&&b)=true:=by rw [ha,hb];rfl
theorem own:ownKnob Tryz.prog.godebug=none:=by kernel_rfl
theorem laidOut:laidOutB Tryz.prog=true:=by kernel_rfl
def laid2:List (String×DataW Unit):=[("unicode.White_Space",Rows.laid_unicode_White_Space),("strings.asciiSpace",Rows.laid_strings_asciiSpace)]
theorem gSpace:Tryz.prog.globalNamed "strings.asciiSpace"=some 0:=by kernel_rfl
theorem door_met (os:Os) (args:Array Value):laidMetH Tryz.prog laid2 ((World.doorLaid Tryz.prog 33 os).forCall (fun _ _=>0) ⟨#[],args,[]⟩).memory :=
 laidMetH_of_parts3 (fuel:=8) (laidMet_of_run' 8 (by kernel_rfl) (by kernel_rfl)) (by kernel_rfl) (by kernel_rfl)
def spTab:List Int:=(List.range 256).map fun c=>if Lib.isSp (UInt8.ofNat c) then 1 else 0
theorem spTab_at (c:Nat) (hc:c<256):spTab.getD c 0=if Lib.isSp (UInt8.ofNat c) then 1 else 0:=by
 unfold spTab
 rw [List.getD_eq_getElem?_getD,List.getElem?_map,List.getElem?_range hc]
 rfl
theorem laid_tab:(Rows.laid_strings_asciiSpace:DataW Unit)=Lib.tabData .u8 spTab:=by kernel_rfl
theorem laid_tail {P:Program} {x:String×DataW Unit} {r:List (String×DataW Unit)} {w:World} (h:laidMet P (x::r) w):laidMet P r w:=by
 obtain⟨ps,hv,hnd,hrows⟩:=h
 obtain⟨n,d⟩:=x
 obtain⟨g,t,cs,fuel,p,q,_,_,_,_,hq,rfl⟩:=hv
 exact⟨q,hq,List.Nodup.sublist (List.sublist_append_right _ _) hnd,fun b off hm=>hrows b off (List.mem_append_right _ hm)⟩
theorem sp_of_laid {W:World} (h:laidMetH Tryz.prog laid2 W):Sp W:=by
 rw [MakeChecks.laidMetH_plain _ _ _ (by kernel_rfl)] at h
 have h2:=laid_tail h
 rw [laid_tab] at h2
 have ht:=Lib.tabIs_of_head gSpace (by kernel_rfl:(Tryz.prog.globals[0]?).map (·.type)=some 297) Tryz.underlying297 Tryz.underlying5 (by kernel_rfl) (by kernel_rfl) h2
 intro c hc
 rw [ht.cell gSpace c (by simpa [spTab] using hc),spTab_at c hc]
end Go.Proofs.YtechdefolfboeaaGreatDoor
