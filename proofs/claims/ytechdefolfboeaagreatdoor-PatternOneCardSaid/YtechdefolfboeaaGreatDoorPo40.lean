/- Merged. -/
import Derived.Test.YtechdefolfboeaaGreatDoorPo37
import Derived.Test.YtechdefolfboeaaGreatDoorPo38
import Derived.Test.YtechdefolfboeaaGreatDoorPo39
set_option linter.unusedVariables false
set_option linter.unusedSimpArgs false
set_option maxRecDepth 100000
set_option maxHeartbeats 2000000
namespace Go.Proofs.YtechdefolfboeaaGreatDoor
open Go.Shelf
def sortIL_ren:Go.Shelf.Ren:=⟨fun|6=>81|15=>114|14=>113|28=>155|29=>156|20=>147|21=>148|22=>149|23=>150|24=>151|25=>152|26=>153|27=>154|46=>222|47=>223|48=>224|49=>225|50=>226|57=>245|n=>n,fun|22=>49|24=>3|25=>36|3=>3|39=>151|0=>0|53=>197|55=>199|4=>4|46=>190|45=>189|50=>194|5=>5|9=>9|66=>263|70=>267|76=>287|77=>74|n=>n,fun|n=>n⟩
theorem sortIL:Go.Proofs.SlLaysF0.n6 Tryz.prog sortIL_ren:={
 mixed:=by kernel_rfl
 f6:=⟨Tryz.f81.name,by decide,Tryz.func81.trans (congrArg some (by kernel_rfl))⟩
 f14:=⟨Tryz.f113.name,by decide,Tryz.func113.trans (congrArg some (by kernel_rfl))⟩
 f15:=Tryz.func114.trans (congrArg some (by kernel_rfl))
 f20:=⟨Tryz.f147.name,by decide,Tryz.func147.trans (congrArg some (by kernel_rfl))⟩
 f21:=⟨Tryz.f148.name,by decide,Tryz.func148.trans (congrArg some (by kernel_rfl))⟩
 f22:=⟨Tryz.f149.name,by decide,Tryz.func149.trans (congrArg some (by kernel_rfl))⟩
 f23:=⟨Tryz.f150.name,by decide,Tryz.func150.trans (congrArg some (by kernel_rfl))⟩
 f24:=⟨Tryz.f151.name,by decide,Tryz.func151.trans (congrArg some (by kernel_rfl))⟩
 f25:=⟨Tryz.f152.name,by decide,Tryz.func152.trans (congrArg some (by kernel_rfl))⟩
 f26:=⟨Tryz.f153.name,by decide,Tryz.func153.trans (congrArg some (by kernel_rfl))⟩
 f27:=⟨Tryz.f154.name,by decide,Tryz.func154.trans (congrArg some (by kernel_rfl))⟩
 f28:=Tryz.func155.trans (congrArg some (by kernel_rfl))
 f29:=Tryz.func156.trans (congrArg some (by kernel_rfl))
 f46:=⟨Tryz.f222.name,by decide,Tryz.func222.trans (congrArg some (by kernel_rfl))⟩
 f47:=Tryz.func223.trans (congrArg some (by kernel_rfl))
 f48:=Tryz.func224.trans (congrArg some (by kernel_rfl))
 f49:=⟨Tryz.f225.name,by decide,Tryz.func225.trans (congrArg some (by kernel_rfl))⟩
 f50:=⟨Tryz.f226.name,by decide,Tryz.func226.trans (congrArg some (by kernel_rfl))⟩
 f57:=⟨Tryz.f245.name,by decide,Tryz.func245.trans (congrArg some (by kernel_rfl))⟩
 t0:=Tryz.underlying0
 a0:=Tryz.isAgg0
 z0:=Tryz.sizeOf0
 v0:=Tryz.zeroValue0
 t3:=Tryz.underlying3
 a3:=Tryz.isAgg3
 z3:=Tryz.sizeOf3
 v3:=Tryz.zeroValue3
 t4:=Tryz.underlying4
 a4:=Tryz.isAgg4
 z4:=Tryz.sizeOf4
 v4:=Tryz.zeroValue4
 t5:=Tryz.underlying5
 a5:=Tryz.isAgg5
 z5:=Tryz.sizeOf5
 v5:=Tryz.zeroValue5
 t9:=Tryz.underlying9
 a9:=Tryz.isAgg9
 z9:=Tryz.sizeOf9
 v9:=Tryz.zeroValue9
 t22:=Tryz.underlying49
 a22:=Tryz.isAgg49
 z22:=Tryz.sizeOf49
 v22:=Tryz.zeroValue49
 t25:=Tryz.underlying36
 a25:=Tryz.isAgg36
 z25:=Tryz.sizeOf36
 v25:=Tryz.zeroValue36
 t39:=Tryz.underlying151
 a39:=Tryz.isAgg151
 z39:=Tryz.sizeOf151
 v39:=Tryz.zeroValue151
 t45:=Tryz.underlying189
 a45:=Tryz.isAgg189
 z45:=Tryz.sizeOf189
 v45:=Tryz.zeroValue189
 t46:=Tryz.underlying190
 a46:=Tryz.isAgg190
 z46:=Tryz.sizeOf190
 v46:=Tryz.zeroValue190
 t50:=Tryz.underlying194
 a50:=Tryz.isAgg194
 z50:=Tryz.sizeOf194
 v50:=Tryz.zeroValue194
 t53:=Tryz.underlying197
 a53:=Tryz.isAgg197
 z53:=Tryz.sizeOf197
 v53:=Tryz.zeroValue197
 t55:=Tryz.underlying199
 a55:=Tryz.isAgg199
 z55:=Tryz.sizeOf199
 v55:=Tryz.zeroValue199
 t66:=Tryz.underlying263
 a66:=Tryz.isAgg263
 z66:=Tryz.sizeOf263
 v66:=Tryz.zeroValue263
 t70:=Tryz.underlying267
 a70:=Tryz.isAgg267
 z70:=Tryz.sizeOf267
 v70:=Tryz.zeroValue267
 t76:=Tryz.underlying287
 a76:=Tryz.isAgg287
 z76:=Tryz.sizeOf287
 v76:=Tryz.zeroValue287
 t77:=Tryz.underlying74
 a77:=Tryz.isAgg74
 z77:=Tryz.sizeOf74
 v77:=Tryz.zeroValue74}
def xnL_ren:Go.Shelf.Ren:=⟨fun|48=>224|n=>n,fun|76=>287|55=>199|0=>0|66=>263|39=>151|n=>n,fun|n=>n⟩
theorem xnL:Go.Proofs.SlLaysF0.n48 Tryz.prog xnL_ren:={
 mixed:=by kernel_rfl
 f48:=Tryz.func224.trans (congrArg some (by kernel_rfl))
 t0:=Tryz.underlying0
 a0:=Tryz.isAgg0
 z0:=Tryz.sizeOf0
 v0:=Tryz.zeroValue0
 t39:=Tryz.underlying151
 a39:=Tryz.isAgg151
 z39:=Tryz.sizeOf151
 v39:=Tryz.zeroValue151
 t55:=Tryz.underlying199
 a55:=Tryz.isAgg199
 z55:=Tryz.sizeOf199
 v55:=Tryz.zeroValue199
 t66:=Tryz.underlying263
 a66:=Tryz.isAgg263
 z66:=Tryz.sizeOf263
 v66:=Tryz.zeroValue263
 t76:=Tryz.underlying287
 a76:=Tryz.isAgg287
 z76:=Tryz.sizeOf287
 v76:=Tryz.zeroValue287}
def npL_ren:Go.Shelf.Ren:=⟨fun|47=>223|15=>114|28=>155|29=>156|n=>n,fun|3=>3|39=>151|53=>197|55=>199|4=>4|5=>5|9=>9|n=>n,fun|n=>n⟩
theorem npL:Go.Proofs.SlLaysF0.n47 Tryz.prog npL_ren:={
 mixed:=by kernel_rfl
 f15:=Tryz.func114.trans (congrArg some (by kernel_rfl))
 f28:=Tryz.func155.trans (congrArg some (by kernel_rfl))
 f29:=Tryz.func156.trans (congrArg some (by kernel_rfl))
 f47:=Tryz.func223.trans (congrArg some (by kernel_rfl))
 t3:=Tryz.underlying3
 a3:=Tryz.isAgg3
 z3:=Tryz.sizeOf3
 v3:=Tryz.zeroValue3
 t4:=Tryz.underlying4
 a4:=Tryz.isAgg4
 z4:=Tryz.sizeOf4
 v4:=Tryz.zeroValue4
 t5:=Tryz.underlying5
 a5:=Tryz.isAgg5
 z5:=Tryz.sizeOf5
 v5:=Tryz.zeroValue5
 t9:=Tryz.underlying9
 a9:=Tryz.isAgg9
 z9:=Tryz.sizeOf9
 v9:=Tryz.zeroValue9
 t39:=Tryz.underlying151
 a39:=Tryz.isAgg151
 z39:=Tryz.sizeOf151
 v39:=Tryz.zeroValue151
 t53:=Tryz.underlying197
 a53:=Tryz.isAgg197
 z53:=Tryz.sizeOf197
 v53:=Tryz.zeroValue197
 t55:=Tryz.underlying199
 a55:=Tryz.isAgg199
 z55:=Tryz.sizeOf199
 v55:=Tryz.zeroValue199}
def blL_ren:Go.Shelf.Ren:=⟨fun|125=>114|128=>155|129=>156|n=>n,fun|46=>151|3=>3|51=>197|53=>199|4=>4|5=>5|9=>9|n=>n,fun|n=>n⟩
theorem blL:Go.Proofs.Lays.n125 Tryz.prog blL_ren:={
 mixed:=by kernel_rfl
 f125:=Tryz.func114.trans (congrArg some (by kernel_rfl))
 f128:=Tryz.func155.trans (congrArg some (by kernel_rfl))
 f129:=Tryz.func156.trans (congrArg some (by kernel_rfl))
 t3:=Tryz.underlying3
 a3:=Tryz.isAgg3
 z3:=Tryz.sizeOf3
 v3:=Tryz.zeroValue3
 t4:=Tryz.underlying4
 a4:=Tryz.isAgg4
 z4:=Tryz.sizeOf4
 v4:=Tryz.zeroValue4
 t5:=Tryz.underlying5
 a5:=Tryz.isAgg5
 z5:=Tryz.sizeOf5
 v5:=Tryz.zeroValue5
 t9:=Tryz.underlying9
 a9:=Tryz.isAgg9
 z9:=Tryz.sizeOf9
 v9:=Tryz.zeroValue9
 t46:=Tryz.underlying151
 a46:=Tryz.isAgg151
 z46:=Tryz.sizeOf151
 v46:=Tryz.zeroValue151
 t51:=Tryz.underlying197
 a51:=Tryz.isAgg197
 z51:=Tryz.sizeOf197
 v51:=Tryz.zeroValue197
 t53:=Tryz.underlying199
 a53:=Tryz.isAgg199
 z53:=Tryz.sizeOf199
 v53:=Tryz.zeroValue199}
end Go.Proofs.YtechdefolfboeaaGreatDoor
namespace Go.Proofs.YtechdefolfboeaaGreatDoor
open Go.RowKit B K
theorem xn_any (bx X:Nat) (hX:X<18446744073709551616) (w:World) (hc:w.cell? ⟨bx,0,none⟩=some (.int .u64 X)) (hf:w.frozen? ⟨bx,0,none⟩=false):
 Calls Tryz.prog 224 #[.pointer (some ⟨bx,0,none⟩)] w fun e w'=>e= .returned (.int .u64 (Sort.xorNextN X:Nat))∧w'=(w.setCell ⟨bx,0,none⟩ (.int .u64 (Sort.xorNextN X:Nat))).drewN 3:=AnyF.xorshift_Next xnL bx 0 X hX w hc hf
theorem np_any (n:Nat) (hn:n<4611686018427387904) (w:World):Calls Tryz.prog 223 #[.int .i64 n] w fun e w'=>e= .returned (.int .u64 ((1<<<Sort.bitsLen n:Nat):Int))∧w'=w:=AnyF.nextPowerOfTwo npL n hn w
theorem bp_any {w0 wS w:World} {A:Option Addr} {n g m c:Nat} {L:List RunP} {d:Array Int} (cA:Nat) (hS:SW w0 A n L wS g m c d w) (hm:m≤100000) (a b:Nat) (hab:a+12<b) (hb:b≤m):
 Calls Tryz.prog 149 #[.slice (some ⟨g,0,none⟩) m c,.int .i64 (a:Int),.int .i64 (b:Int),.func (.func 82) #[.slice A n cA] #[]] w fun e w'=>e= .returned (.tuple #[])∧SW w0 A n L wS g m c (Sort.breakPatterns d a b) w':=by
 obtain⟨R,hR⟩: ∃ R,Sort.breakPatterns d a b=R:=⟨_,rfl⟩
 rw [hR];obtain⟨l,rfl⟩: ∃ l,b=a+l:=⟨b-a,by omega⟩
 rw [breakPatterns_eq d a l (by omega)] at hR;obtain⟨M,hM⟩: ∃ M:Nat,1<<<Sort.bitsLen l=M:=⟨_,rfl⟩
 have hM1:1≤M:=by rw [←hM,Nat.one_shiftLeft];exact Nat.two_pow_pos _
 have hM2:M≤2*l:=by rw [←hM,Nat.one_shiftLeft];exact Sort.two_pow_bitsLen_le (by omega)
 have hNP:=H_ (fun w=>np_any l (by omega) w);rw [hM] at hR hNP;obtain⟨q,hq⟩: ∃ q,l / 4=q:=⟨_,rfl⟩
 obtain⟨i0,hi0⟩: ∃ i,a+q*2=i+1:=⟨a+q*2-1,by omega⟩
 rw [hq,hi0,Nat.add_sub_cancel] at hR;have x1:(((a+l:Nat):Int))-(a:Int)=(l:Int):=by omega
 have x2:(l:Int) / 4=(q:Int):=by omega
 have x3:(a:Int)+(q:Int)*2=(i0:Int)+1:=by omega
 have bl:l≤100000:=by omega
 have ba:a≤100000:=by omega
 have bq:q≤100000:=by omega
 have bi:i0+3≤a+l∧i0+3≤m∧a+l≤m:=by omega
 have hbi:=H_ bi;have b8:(8:Int)≤(l:Int):=by omega
 have bi0:i0≤100000:=by omega
 obtain⟨bb,hbb⟩: ∃ q,((a+l:Nat):Int)=q:=⟨_,rfl⟩
 have hb0:0≤bb∧bb≤100000:=by omega
 obtain⟨hb0a,hb0b⟩:=hb0;rw [hbb] at x1 ⊢;have g1:Hid (w.heap.size≠g):=by have:=hS.lt;show _≠_;omega
 have g2:Hid (wS.heap.size≤w.heap.size):=hS.gr.size;have g3:Hid (w0.heap.size≤w.heap.size):=hS.b0.size;obtain⟨w1,b1,hw1,hbE1,hb1,B1⟩:=box1 w 263 [.int .u64 (l:Int)];rw [hbE1] at g1 g2 g3;have hS1:=H_ (hS.below hb1)
 have hB1:Hid (Bx w1 b1 263 [.int .u64 ((UInt64.ofNat l).toNat :Int)]):=by
  have e:(UInt64.ofNat l).toNat =l:=by simp;omega
  show Bx _ _ _ _;rw [e];exact B1
 have hR0:Hid (bpRest a l M i0 (3-0) 0 (UInt64.ofNat l,d)=R):=hR;clear bi hS hb1 B1 hi0 hq hab hb hR hM hbb;go_enter Tryz.func149,Tryz.ntmps149;go_wp2_with fail;refine(hNP.out _).mono ?_;rintro e w2 ⟨rfl,rfl⟩;go_wp2_with fail;clear hw1 hbE1 x1 hNP;go_loopw [11] (fun iv wr=> ∃ (t p:Nat) (r:UInt64) (d:Array Int),t≤3∧p=i0+t∧iv= .int .i64 p∧Hid (SW w0 A n L wS g m c d wr)∧Hid (Bx wr b1 263 [.int .u64 (r.toNat:Int)])∧Hid (bpRest a l M i0 (3-t) t (r,d)=R)) (fun iv _=>i0+3-(intOf iv).toNat)
 case atStart=>exact⟨0,i0,_,d,by omega,rfl,rfl,hS1,hB1,hR0⟩
 case round=>
  clear hS1 hB1 hR0;obtain⟨t,p,r,d,ht,hp,rfl,hS,hB,hR⟩:=hrel;by_cases ht3:t<3
  ·have hpI:(p:Int)≤(i0:Int)+1+1:=by omega
   obtain⟨X,hX⟩: ∃ X,r.toNat=X:=⟨_,rfl⟩
   have lX:X<18446744073709551616:=by rw [←hX];exact r.toNat_lt
   rw [hX] at hB;obtain⟨X',hX'⟩: ∃ X',Sort.xorNextN X=X':=⟨_,rfl⟩
   have lX':X'<18446744073709551616:=by rw [←hX'];exact Sort.xorNextN_lt X lX
   have hxr:Hid ((Sort.xorNext r).toNat =X'):=by show _=_;rw [Sort.xorNext_toNat,hX,hX']
   obtain⟨O,hO⟩: ∃ O:Nat,X'&&& (M-1)=O:=⟨_,rfl⟩
   have lO:O≤M-1:=by rw [←hO];exact Nat.and_le_right
   have eAnd:bits .and .u64 (X':Int) ((M:Int)-1)=(O:Int):=by
    rw [show((M:Int)-1)=((M-1:Nat):Int) by omega,bits_and_u64_nat _ _ lX' (by omega),hO]
   have hOO:Hid ((Sort.xorNext r).toNat &&& (M-1)=O):=by show _=_;rw [hxr.out,hO]
   have hnx:=H_ (xn_any b1 X lX wr (hB.out.cell 0 rfl) (hB.out.frozen 0));rw [hX'] at hnx;have hB2:=hB.out.set 0 (.int .u64 (X':Int));have hS2:=hS.out.but (But.of_set wr ⟨b1,0,none⟩ (.int .u64 (X':Int)) (X:=[b1]) (by simp)) g1.out g2.out g3.out;obtain⟨w3,hw3⟩: ∃ q,(wr.setCell ⟨b1,0,none⟩ (.int .u64 (X':Int)))=q:=⟨_,rfl⟩
   rw [hw3] at hB2 hS2 hnx;have hdr:Below w3.heap.size w3 (w3.drewN 3):=⟨rfl,rfl,rfl,Nat.le_refl _,fun _ _=>rfl⟩
   have hB3:=H_ (hB2.below hdr);have hS3:=H_ (hS2.below hdr);obtain⟨w4,hw4⟩: ∃ q,w3.drewN 3=q:=⟨_,rfl⟩
   rw [hw4] at hB3 hS3 hnx;have hpm:p<m:=by have:=hbi.out;omega
   have hpmI:(p:Int)<(m:Int):=by omega
   have hpH:=H_ hp;clear hX hX' hO hw3 hw4 hB2 hS2 hdr hB hS hp;go_wp2_with fail;refine hnx.out.mono ?_;rintro e w5 ⟨rfl,rfl⟩;refine(Decidable.em (l≤O)).elim (fun h=>?zA) (fun h=>?zB)
   case' zA=>
    obtain⟨o,ho⟩: ∃ o,O-l=o:=⟨_,rfl⟩
    have hgI:(l:Int)≤(O:Int):=by omega
    have hoI:(O:Int)-(l:Int)=(o:Int):=by omega
    have hol:o<l:=by omega
    have hRn:=H_ ((bp_step a l M i0 t r d o ht3 (by rw [hOO.out,if_pos h,ho])).symm.trans hR.out);clear ho h
   case' zB=>
    obtain⟨o,ho⟩: ∃ o,o=O:=⟨_,rfl⟩
    subst ho;have hgI: ¬ (l:Int)≤(o:Int):=by omega
    have hol:o<l:=by omega
    have hRn:=H_ ((bp_step a l M i0 t r d o ht3 (by rw [hOO.out,if_neg h])).symm.trans hR.out);clear h
   all_goals
    obtain⟨pq,hpq⟩: ∃ q,a+o=q:=⟨_,rfl⟩
    rw [←hpH.out,hpq] at hRn;have hqm:pq<m:=by have:=hbi.out;omega
    have hqmI:(pq:Int)<(m:Int):=by omega
    have hs1:IntKind.i64.wrap ((a:Int)+(o:Int))=(pq:Int):=by rw [IntWalk.i64_in _ (by omega)];omega
    clear hpq hR hnx;go_wp2_with fail;go_upto_region 10 with fail;refine wp_region_late [0,0,1,1,1,1,0,0,0,0,0,0,0,0,0,0,0,2,2,2] (by kernel_rfl) (by kernel_rfl) ?_;intro C hC;simp only [pickK,Nat.reduceEqDiff, ↓reduceIte]
    repeat(go_big_quiet_step (first
     |(intro _;with_reducible rfl)
     |(intro hc;have m0:=(hS3.out.below hc).cell hpm;have m1:=(hS3.out.below hc).cell hqm;simp only [m0,m1,Result.andThen];exact⟨trivial,rfl⟩)))
    refine wpQuiet_nil ?_;clear hC;intro C' hC'
    repeat(go_big_quiet_step (first|(intro _;with_reducible rfl)))
    refine wpQuiet_nil ?_;clear hC';intro wq hbq;obtain⟨W1,W2,sc1,sf1,sk1,⟨y9,sc2⟩,sf2,sk2,hS2⟩:=(hS3.out.below hbq).swap hpm hqm;replace hS2:=H_ hS2;have hbq9:=hbq;clear hbq;have hBq:=H_ (hB3.out.below hbq9)
    have hB4:Hid (Bx W2 b1 263 [.int .u64 (X':Int)]):=by
     rw [←sk2,←sk1];have n1: ∀ j v (U:World),Bx U b1 263 [.int .u64 (X':Int)]→Bx (U.setCell ⟨g,j,none⟩ v) b1 263 [.int .u64 (X':Int)]:=fun j v U h=>h.keep (Below.heap_setCell _ _ _ _ fun e=>g1.out (by simpa using e));exact n1 _ _ _ (n1 _ _ _ hBq.out)
    rw [←hxr.out] at hB4;have hp1:p+1=i0+(t+1):=by have:=hpH.out;omega
    have hp1H:=H_ hp1;clear hp1 hbq9 hBq;go_wp2_with fail;go_roundw
    case rel=>exact⟨t+1,p+1,_,_,by omega,hp1H.out,by go_num,hS2,hB4,hRn⟩
    case measure=>simp [intOf]<;>omega
  ·obtain rfl:t=3:=by omega
   have hpI: ¬ (p:Int)≤(i0:Int)+1+1:=by omega
   have hE:Hid (d=R):=hR.out;clear hp;go_wp2_with fail;go_returns;exact⟨rfl,by rw [←hE.out];exact hS.out⟩
theorem rev_any' {w0 wS w:World} {A:Option Addr} {n g m c:Nat} {L:List RunP} {d:Array Int} (cA:Nat) (hS:SW w0 A n L wS g m c d w) (hm:m≤100000) (a b:Nat) (hb0:0<b) (hb:b≤m):
 Calls Tryz.prog 151 #[.slice (some ⟨g,0,none⟩) m c,.int .i64 (a:Int),.int .i64 (b:Int),.func (.func 82) #[.slice A n cA] #[]] w fun e w'=>e= .returned (.tuple #[])∧SW w0 A n L wS g m c (Sort.reverseRange d a b) w':=by
 obtain⟨k,rfl⟩: ∃ k,b=k+1:=⟨b-1,by omega⟩
 exact rev_any cA hS hm a k hb
set_option maxHeartbeats 8000000 in
theorem pdq_any {w0 wS:World} {A:Option Addr} {n g m c:Nat} {L:List RunP} (cA:Nat) (hm:m≤100000): ∀ (K:Nat) {w:World} {d:Array Int} (hS:SW w0 A n L wS g m c d w) (a b limit:Nat),b-a≤K→a≤b→b≤m→limit≤100→
 Calls Tryz.prog 113 #[.slice (some ⟨g,0,none⟩) m c,.int .i64 (a:Int),.int .i64 (b:Int),.int .i64 (limit:Int),.func (.func 82) #[.slice A n cA] #[]] w fun e w'=>e= .returned (.tuple #[])∧SW w0 A n L wS g m c (Sort.pdq (ltR L) d a b limit true true) w':=by
 intro K
 induction K using Nat.strongRecOn with
 |_ K ih=>
 intro w d hS a b limit hK hab hb hlim;have ihH:=H_ ih;have hS0:=H_ hS;obtain⟨R,hR⟩: ∃ R,Sort.pdq (ltR L) d a b limit true true=R:=⟨_,rfl⟩
 rw [hR];have hR0:=H_ hR;have hL0:Hid (a≤b∧b≤m∧b-a≤K∧limit≤100):=⟨hab,hb,hK,hlim⟩
 clear hS hR ih hK hab hb hlim;go_enter Tryz.func113,Tryz.ntmps113;go_wp2_with fail;go_loopw [1,2,3,10,11] (fun va vb vl vB vP wr=> ∃ (a b limit:Nat) (wb wp:Bool) (d:Array Int),a≤b∧b≤m∧b-a≤K∧limit≤100∧va= .int .i64 a∧vb= .int .i64 b∧vl= .int .i64 limit∧vB= .bool wb∧vP= .bool wp∧Hid (SW w0 A n L wS g m c d wr)∧Hid (Sort.pdq (ltR L) d a b limit wb wp=R)) (fun va vb _ _ _ _=>(intOf vb).toNat -(intOf va).toNat)
 case atStart=>exact⟨a,b,limit,true,true,d,hL0.out.1,hL0.out.2.1,hL0.out.2.2.1,hL0.out.2.2.2,rfl,rfl,rfl,rfl,rfl,hS0,hR0⟩
 case round=>
  clear hS0 hR0 hL0;obtain⟨a,b,limit,wb,wp,d,hab,hb,hK,hlim,rfl,rfl,rfl,rfl,rfl,hS,hR⟩:=hrel;obtain⟨wo,rfl⟩: ∃ wo:World,wo=wr:=⟨_,rfl⟩
  obtain⟨l,hl⟩: ∃ l,b-a=l:=⟨_,rfl⟩
  have x1:(b:Int)-(a:Int)=(l:Int):=by omega
  have bb:b≤100000:=by omega
  have ba:a≤100000:=by omega
  have bl:l≤100000:=by omega
  have hlH:=H_ hl;by_cases h12:l≤12
  ·have h12I:(l:Int)≤12:=by omega
   have hE:=H_ ((pdq_small (lt:=ltR L) (d:=d) (a:=a) (b:=b) (limit:=limit) (wb:=wb) (wp:=wp) (by omega)).symm.trans hR.out);have hin:=H_ (ins_any cA hS.out hm a b hb (by omega));rw [hE.out] at hin;clear hl hS hR;go_wp2_with fail;refine hin.out.mono ?_;rintro e w2 ⟨rfl,hS2⟩;have hS2H:=H_ hS2;clear hS2 hin;go_wp2_with fail;go_returns;exact⟨rfl,hS2H.out⟩
  ·have h12I: ¬ (l:Int)≤12:=by omega
   by_cases hl0:limit=0
   ·have hl0I:((limit:Int)==0)=true:=by simp [hl0]
    have hE:=H_ ((pdq_heap (lt:=ltR L) (d:=d) (a:=a) (b:=b) (limit:=limit) (wb:=wb) (wp:=wp) (by omega) hl0).symm.trans hR.out);have hin:=H_ (hp_any cA hS.out hm a b (by omega) hb);rw [hE.out] at hin;clear hl hS hR hl0;go_wp2_with fail;refine hin.out.mono ?_;rintro e w2 ⟨rfl,hS2⟩;have hS2H:=H_ hS2;clear hS2 hin;go_wp2_with fail;go_returns;exact⟨rfl,hS2H.out⟩
   ·have hl0I:((limit:Int)==0)=false:=by simp [hl0]
    have hab12:Hid (a+12<b):=by show _<_;omega
    obtain⟨d1,hd1⟩: ∃ q,(if !wb then Sort.breakPatterns d a b else d)=q:=⟨_,rfl⟩
    obtain⟨lim,hlm⟩: ∃ q,(if !wb then limit-1 else limit)=q:=⟨_,rfl⟩
    have hlm1:lim≤100:=by rw [←hlm];split<;>omega
    have hd1H:=H_ hd1;have hlmH:=H_ hlm;have hl0H:=H_ hl0;have h12H:=H_ h12;clear hd1 hlm hl hl0 h12;go_upto_if 39 with fail;go_cut [3] (fun v3 wx=>v3= .int .i64 (lim:Nat)∧Hid (SW w0 A n L wS g m c d1 wx))
    case first=>
     cases wb with
     |true=>
      have e1:d=d1:=hd1H.out;have e2:limit=lim:=hlmH.out;subst e1 e2;go_wp2_with fail
      go_meet
      exact⟨rfl,hS⟩
     |false=>
      have e2:(limit:Int)-1=(lim:Int):=by have:limit-1=lim:=hlmH.out;have:=hl0H.out;omega
      have hbp:=H_ (bp_any cA hS.out hm a b hab12.out hb);have e1:Sort.breakPatterns d a b=d1:=hd1H.out;rw [e1] at hbp;clear e1;go_wp2_with fail;refine hbp.out.mono ?_;rintro e w2 ⟨rfl,hS2⟩;have hS2H:=H_ hS2;clear hS2 hbp;go_wp2_with fail
      go_meet
      exact⟨rfl,hS2H⟩
    case' rest=>
     obtain⟨rfl,hS1⟩:=hcut
    obtain⟨⟨p0,h0⟩,hc⟩: ∃ r,Sort.choosePivot (ltR L) d1 a b=r:=⟨_,rfl⟩
    have hcp:=H_ (cp_any cA hS1.out hm a b hab12.out hb);have hp0:=Sort.choosePivot_holds (ltR L) d1 a b (by have:=hab12.out;omega);rw [hc] at hcp hp0;simp only at hp0;obtain⟨d2,hd2⟩: ∃ q,(if h0= .decreasing then Sort.reverseRange d1 a b else d1)=q:=⟨_,rfl⟩
    obtain⟨pv,hpv⟩: ∃ q,(if h0= .decreasing then(b-1)-(p0-a) else p0)=q:=⟨_,rfl⟩
    obtain⟨hint,hhi⟩: ∃ q,(if h0= .decreasing then Sort.Hint.increasing else h0)=q:=⟨_,rfl⟩
    have hpvb:a≤pv∧pv<b:=by rw [←hpv];have:=hab12.out;split<;>omega
    have hp0H:=H_ hp0;have hcH:=H_ hc;have hd2H:=H_ hd2;have hpvH:=H_ hpv;have hhiH:=H_ hhi;have hpvbH:=H_ hpvb;obtain⟨hv,hhv⟩: ∃ q,hintI h0=q:=⟨_,rfl⟩
    change Hid (Calls _ _ _ _ (fun e w'=>e= .returned (.tuple #[.int .i64 (p0:Int),.int .i64 (hintI h0)])∧SW w0 A n L wS g m c d1 w')) at hcp;rw [hhv] at hcp;have hhvH:=H_ hhv;clear hp0 hc hd2 hpv hhi hpvb hhv hS;go_wp2_with fail;refine hcp.out.mono ?_;rintro e w2 ⟨rfl,hS2⟩;have hS2H:=H_ hS2;clear hS2 hcp hS1;go_upto_if 56 with fail;go_cut [13,14] (fun v13 v14 wx=>v13= .int .i64 (pv:Nat)∧v14= .int .i64 (hintI hint)∧Hid (SW w0 A n L wS g m c d2 wx))
    case first=>
     by_cases hdec:h0= .decreasing
     ·subst hdec;have hv2:hv=2:=hhvH.out.symm;subst hv2;have e1:Sort.reverseRange d1 a b=d2:=hd2H.out;have e2:(b-1)-(p0-a)=pv:=hpvH.out;have e3:Sort.Hint.increasing=hint:=hhiH.out;subst e3;obtain⟨e,he⟩: ∃ e,p0-a=e:=⟨_,rfl⟩
      obtain⟨b1,hb1⟩: ∃ e,b-1=e:=⟨_,rfl⟩
      have q1:(p0:Int)-(a:Int)=(e:Int):=by have:=hp0H.out.1;omega
      have q2:(b:Int)-1=(b1:Int):=by have:=hab12.out;omega
      have q3:(b1:Int)-(e:Int)=(pv:Int):=by have:=hp0H.out.1;have:=hp0H.out.2;have:=hab12.out;omega
      have q4:p0≤100000:=by have:=hp0H.out.2;omega
      have q5:e≤100000:=by omega
      have q6:b1≤100000:=by omega
      have hrv:=H_ (rev_any' cA hS2H.out hm a b (by have:=hab12.out;omega) hb);rw [e1] at hrv;clear e1 e2 he hb1;go_wp2_with fail;refine hrv.out.mono ?_;rintro e w3 ⟨rfl,hS3⟩;have hS3H:=H_ hS3;clear hS3 hrv;go_wp2_with fail
      go_meet
      exact⟨rfl,rfl,hS3H⟩
     ·have hv2:(hv==2)=false:=by rw [←hhvH.out];cases h0<;>first|rfl|exact absurd rfl hdec
      have e1:=hd2H.out;have e2:=hpvH.out;have e3:=hhiH.out;rw [if_neg hdec] at e1 e2 e3;subst e1 e2 e3;have hhe:=H_ hhvH.out;clear hdec;go_wp2_with fail
      go_meet
      exact⟨rfl,by rw [hhe.out],hS2H⟩
    case' rest=>
     obtain⟨rfl,rfl,hS2⟩:=hcut
    obtain⟨hv3,hhv3⟩: ∃ q,hintI hint=q:=⟨_,rfl⟩
    obtain⟨q,hq⟩: ∃ q,(wb&&wp&&decide (hint= .increasing))=q:=⟨_,rfl⟩
    have hqb:Hid ((wb&&wp&&(hv3==1))=q):=by
     show _=_;rw [←hq,←hhv3]
     congr 1
     cases hint<;>rfl
    simp only [hhv3];have hqH:=H_ hq;clear hq hhv3 hS2H;go_upto_region 15 with fail;go_cut [75] (fun v75 wx=>v75= .bool q∧Hid (SW w0 A n L wS g m c d2 wx))
    case first=>
     cases wb with
     |false=>
      obtain rfl:false=q:=hqb.out;go_wp2_with fail
      go_meet
      exact⟨rfl,hS2⟩
     |true=>
      cases wp with
      |false=>
       obtain rfl:false=q:=hqb.out;go_wp2_with fail
       go_meet
       exact⟨rfl,hS2⟩
      |true=>
       obtain rfl:(hv3==1)=q:=hqb.out;go_wp2_with fail
       go_meet
       exact⟨rfl,hS2⟩
    case' rest=>
     obtain⟨rfl,hS2'⟩:=hcut;clear hS2
    obtain⟨⟨d3,pi⟩,hpi⟩: ∃ r,(if q then Sort.partialInsertionSort (ltR L) d2 a b else(d2,false))=r:=⟨_,rfl⟩
    have hRE:=H_ (fun hsz=>(pdq_eq (lt:=ltR L) (d:=d) (d3:=d3) (wp:=wp) (pi:=pi) (swoR L) hsz (by have:=hlH.out;have:=h12H.out;omega) hl0H.out hd1H.out hlmH.out hcH.out hd2H.out hpvH.out hhiH.out (by rw [hqH.out];exact hpi) hpvbH.out).symm.trans hR.out);have hpiH:=H_ hpi;clear hpi hd1H hlmH hcH hd2H hpvH hhiH hqH hqb hhvH hR;go_upto_if 75 with fail;go_cut [13] (fun v13 wx=>v13= .int .i64 (pv:Nat)∧pi=false∧Hid (SW w0 A n L wS g m c d3 wx))
    case first=>
     cases q with
     |true=>
      have hp1:=H_ (pi_any cA hS2'.out hm a b (by have:=hab12.out;omega) hb);have e1:Sort.partialInsertionSort (ltR L) d2 a b=(d3,pi):=hpiH.out;rw [e1] at hp1;clear e1
      cases pi with
      |true=>
       go_wp2_with fail;refine hp1.out.mono ?_;rintro e w3 ⟨rfl,hS3⟩;have hS3H:Hid (SW w0 A n L wS g m c d3 w3):=hS3;have hE:Hid (d3=R):=hRE.out (by rw [hS3H.out.sz];exact hb);clear hS3 hp1;go_wp2_with fail;go_returns;rw [←hE.out];exact⟨rfl,hS3H.out⟩
      |false=>
       go_wp2_with fail;refine hp1.out.mono ?_;rintro e w3 ⟨rfl,hS3⟩;have hS3H:Hid (SW w0 A n L wS g m c d3 w3):=hS3;clear hS3 hp1;go_wp2_with fail
       go_meet
       exact⟨rfl,trivial,hS3H⟩
     |false=>
      have e1:(d2,false)=(d3,pi):=hpiH.out;obtain⟨rfl,rfl⟩:=Prod.mk.inj e1;clear e1;go_wp2_with fail
      go_meet
      exact⟨rfl,trivial,hS2'⟩
    case' rest=>
     obtain⟨rfl,rfl,hS3⟩:=hcut;clear hS2'
    have hRn:Hid (pdqRest (ltR L) d3 a b lim wb wp pv=R):=hRE.out (by rw [hS3.out.sz];exact hb);obtain⟨q2,hq2⟩: ∃ q,(decide (a>0)&& !ltR L d3[a-1]! d3[pv]!)=q:=⟨_,rfl⟩
    obtain⟨hpv0,hpv1⟩:=hpvbH.out;have hpvm:pv<m:=by omega
    have hpvmI:(pv:Int)<(m:Int):=by omega
    have hq2H:=H_ hq2;unfold pdqRest at hRn;rw [hq2] at hRn;clear hq2 hRE hpiH;go_upto_region 17 with fail;go_cut [97] (fun v97 wx=>v97= .bool q2∧Hid (SW w0 A n L wS g m c d3 wx))
    case first=>
     by_cases ha0:a=0
     ·subst ha0;obtain rfl:false=q2:=by rw [←hq2H.out];simp
      go_wp2_with fail;go_upto_region 17 with fail;refine wb_ wc.heap.size ?_;intro C hC
      repeat(go_big_quiet_step (first
       |((intro _;with_reducible rfl))
      ))
      refine wpQuiet_nil ?_;intro w9 hb9;clear hC;have hS9:=H_ (hS3.out.below hb9);clear hb9 hS3;go_wp2_with fail
      go_meet
      exact⟨rfl,hS9⟩
     ·obtain⟨a,rfl⟩: ∃ k,a=k+1:=⟨a-1,by omega⟩
      have ham:a<m:=by omega
      have hamI:(a:Int)<(m:Int):=by omega
      have haI:(0:Int)<(a:Int)+1:=by omega
      have hs1:IntKind.i64.wrap ((a:Int)+1-1)=a:=by rw [IntWalk.i64_in _ (by omega)];omega
      obtain⟨d,hd⟩: ∃ d,d3=d:=⟨_,rfl⟩
      subst hd;obtain⟨o,ho⟩: ∃ o,ordR L d3[a]! d3[pv]! =o:=⟨_,rfl⟩
      have hcmp:Hid (∀ {U:World},Below wc.heap.size wc U→Calls Tryz.prog 82 #[.slice A n cA,.int .i64 d3[a]!,.int .i64 d3[pv]!] U fun e w'=>e= .returned (.int .i64 o)∧Below U.heap.size U w'):=fun hU=>by rw [←ho];exact hS3.out.cmp cA ham hpvm hU
      have hlt:ltR L d3[a]! d3[pv]! =decide (o<0):=by rw [←ho];rfl
      clear ho;have hv:=hq2H.out;rw [Nat.add_sub_cancel,hlt,show decide (a+1>0)=true from rfl,Bool.true_and] at hv;clear hlt;by_cases hod:o<0
      ·have hod':decide (o<0)=true:=T_ hod;rw [hod'] at hv;obtain rfl:false=q2:=hv;go_wp2_with fail;have hbW:Hid (Below wc.heap.size wc wc):=Below.refl _ _;go_upto_region 17 with fail;refine wb_ wc.heap.size ?_;intro C hC
       repeat(go_big_quiet_step (first
        |((intro _;with_reducible rfl))
        |(intro hc;have hcw:=b_ hbW hc;have m0:=(hS3.out.below hcw).cell ham;have m1:=(hS3.out.below hcw).cell hpvm;simp only [m0,m1,Result.andThen];exact⟨trivial,rfl⟩)
        |(intro hc;have hcw:=b_ hbW hc;(with_reducible refine(hcmp.out hcw).mono ?_);rintro e w'' ⟨rfl,hw⟩;exact⟨rfl,u_ hc hw⟩)))
       refine wpQuiet_nil ?_;intro w9 hb9;clear hC;have hS9:=H_ (hS3.out.below hb9);clear hb9 hbW hS3;go_wp2_with fail
       go_meet
       exact⟨rfl,hS9⟩
      ·have hod':decide (o<0)=false:=F_ hod;rw [hod'] at hv;obtain rfl:true=q2:=hv;go_wp2_with fail;have hbW:Hid (Below wc.heap.size wc wc):=Below.refl _ _;go_upto_region 17 with fail;refine wb_ wc.heap.size ?_;intro C hC
       repeat(go_big_quiet_step (first
        |((intro _;with_reducible rfl))
        |(intro hc;have hcw:=b_ hbW hc;have m0:=(hS3.out.below hcw).cell ham;have m1:=(hS3.out.below hcw).cell hpvm;simp only [m0,m1,Result.andThen];exact⟨trivial,rfl⟩)
        |(intro hc;have hcw:=b_ hbW hc;(with_reducible refine(hcmp.out hcw).mono ?_);rintro e w'' ⟨rfl,hw⟩;exact⟨rfl,u_ hc hw⟩)))
       refine wpQuiet_nil ?_;intro w9 hb9;clear hC;have hS9:=H_ (hS3.out.below hb9);clear hb9 hbW hS3;go_wp2_with fail
       go_meet
       exact⟨rfl,hS9⟩
    case' rest=>
     obtain⟨rfl,hS3'⟩:=hcut;clear hS3
    cases q2 with
    |true=>
     rw [if_pos rfl] at hRn;have hpe:=H_ (pe_any cA hS3'.out hm a b pv hpv0 hpv1 hb);have hrg:=partitionEqual_range (lt:=ltR L) (d:=d3) (a:=a) (b:=b) (pivot:=pv) (by omega);obtain⟨⟨mid,d4⟩,hr4⟩: ∃ r,Sort.partitionEqual (ltR L) d3 a b pv=r:=⟨_,rfl⟩
     rw [hr4] at hpe hrg hRn;have hRm:Hid (Sort.pdq (ltR L) d4 mid b lim wb wp=R):=hRn.out;have h1:a<mid:=hrg.1;have h2:mid≤b:=hrg.2;clear hr4 hrg hRn;go_wp2_with fail;refine hpe.out.mono ?_;rintro e w4 ⟨rfl,hS4⟩;have hS4H:Hid (SW w0 A n L wS g m c d4 w4):=hS4;clear hS4 hpe;go_wp2_with fail;go_roundw
     case rel=>exact⟨mid,b,lim,wb,wp,d4,h2,hb,by omega,hlm1,rfl,rfl,rfl,rfl,rfl,hS4H,hRm⟩
     case measure=>simp [intOf]<;>omega
    |false=>
     rw [if_neg (by simp)] at hRn;have hpt:=H_ (pt_any cA hS3'.out hm a b pv hpv0 hpv1 hb (by have:=hab12.out;omega));have hrg:=Sort.partition_holds (ltR L) (swoR L) d3 a b pv hpv0 hpv1 (by rw [hS3'.out.sz];exact hb);obtain⟨⟨mid,ap,d4⟩,hr4⟩: ∃ r,Sort.partition (ltR L) d3 a b pv=r:=⟨_,rfl⟩
     rw [hr4] at hpt hrg hRn;have h1:a≤mid:=hrg.1;have h2:mid<b:=hrg.2.1;obtain⟨ll,hll⟩: ∃ q,mid-a=q:=⟨_,rfl⟩
     obtain⟨rl,hrl⟩: ∃ q,b-mid=q:=⟨_,rfl⟩
     obtain⟨l8,hl8⟩: ∃ q,l / 8=q:=⟨_,rfl⟩
     have hRm:Hid ((if ll<rl then Sort.pdq (ltR L) (Sort.pdq (ltR L) d4 a mid lim true true) (mid+1) b lim (decide (ll≥l8)) ap else Sort.pdq (ltR L) (Sort.pdq (ltR L) d4 (mid+1) b lim true true) a mid lim (decide (rl≥l8)) ap)=R):=by
      show _=_;rw [←hRn.out,←hll,←hrl,←hl8,←hlH.out]
     have z1:(mid:Int)-(a:Int)=(ll:Int):=by omega
     have z2:(b:Int)-(mid:Int)=(rl:Int):=by omega
     have z3:(l:Int) / 8=(l8:Int):=by omega
     have bm:mid≤100000:=by omega
     have hc1:Hid (Calls Tryz.prog 113 #[.slice (some ⟨g,0,none⟩) m c,.int .i64 (a:Int),.int .i64 (mid:Int),.int .i64 (lim:Int),.func (.func 82) #[.slice A n cA] #[]]=Calls Tryz.prog 113 #[.slice (some ⟨g,0,none⟩) m c,.int .i64 (a:Int),.int .i64 (mid:Int),.int .i64 (lim:Int),.func (.func 82) #[.slice A n cA] #[]]):=rfl;have hllH:=H_ hll;have hrlH:=H_ hrl;clear hr4 hrg hRn hll hrl hl8 hc1;go_wp2_with fail;refine hpt.out.mono ?_;rintro e w4 ⟨rfl,hS4⟩;have hS4H:Hid (SW w0 A n L wS g m c d4 w4):=hS4;clear hS4 hpt hS3';by_cases hlr:ll<rl
     ·have hlrI:(ll:Int)<(rl:Int):=by omega
      rw [if_pos hlr] at hRm;have hih:=H_ (ihH.out (mid-a) (by omega) hS4H.out a mid lim (Nat.le_refl _) h1 (by omega) hlm1);obtain⟨d5,hd5⟩: ∃ q,Sort.pdq (ltR L) d4 a mid lim true true=q:=⟨_,rfl⟩
      rw [hd5] at hih hRm;clear hd5 hlr;go_wp2_with fail;refine hih.out.mono ?_;rintro e w5 ⟨rfl,hS5⟩;have hS5H:=H_ hS5;clear hS5 hih hS4H;go_wp2_with fail;go_roundw
      case rel=>exact⟨mid+1,b,lim,decide (ll≥l8),ap,d5,by omega,hb,by omega,hlm1,by go_num,rfl,rfl,by simp,rfl,hS5H,hRm⟩
      case measure=>simp [intOf]<;>omega
     ·have hlrI: ¬ (ll:Int)<(rl:Int):=by omega
      rw [if_neg hlr] at hRm;have hih:=H_ (ihH.out (b-(mid+1)) (by omega) hS4H.out (mid+1) b lim (Nat.le_refl _) (by omega) hb hlm1);obtain⟨d5,hd5⟩: ∃ q,Sort.pdq (ltR L) d4 (mid+1) b lim true true=q:=⟨_,rfl⟩
      rw [hd5,show((mid+1:Nat):Int)=(mid:Int)+1 by omega] at hih;rw [hd5] at hRm;clear hd5 hlr;go_wp2_with fail;refine hih.out.mono ?_;rintro e w5 ⟨rfl,hS5⟩;have hS5H:=H_ hS5;clear hS5 hih hS4H;go_wp2_with fail;go_roundw
      case rel=>exact⟨a,mid,lim,decide (rl≥l8),ap,d5,h1,by omega,by omega,hlm1,rfl,rfl,rfl,by simp,rfl,hS5H,hRm⟩
      case measure=>simp [intOf]<;>omega
theorem bl_any (x:Nat) (hx:x≤100000) (w:World):Calls Tryz.prog 114 #[.int .u64 (x:Int)] w fun e w'=> ∃ k:Nat,e= .returned (.int .i64 (k:Int))∧k≤100∧w'=w:=by
 have h:=Any.bits_Len blL (x:Int) w (by omega) (by omega);rw [Int.toNat_natCast,bitLen_eq _ (by omega)] at h;refine Calls.mono h fun e w' he=>⟨_,he.1,?_,he.2⟩
 have:=(Sort.bitsLen_le_iff x 17).2 (by omega);omega
theorem sortOK (mx:Nat) (hmx:mx≤100000):SortOK mx:=by
 intro A n cA L w0 w base v l hRK hDL hb0 hlow hrow hin hlen;rcases hrow.2 with⟨hv,h0⟩|⟨g,cap,cur,hv,hbg,hcur,hcap,hmax,hsz,htk⟩
 ·have hl:l=[]:=List.eq_nil_of_length_eq_zero h0;subst hl;rw [hv];refine Calls.mono (AnyF.slices_SortFunc_none sortIL none 0 _ w) fun e w' he=>⟨he.1,?_,?_⟩
  ·have e1:srtR L ([]:List Int)=[]:=by simp [srtR]
   rw [e1];show World.ownsRow _ _ _ _ _ _ _;rw [he.2,hv];exact World.ownsRow_nil _ _ _ _
  ·rw [he.2];exact World.grownBy.refl _ _
 ·have hgw:g<w.heap.size:=(Array.getElem?_eq_some_iff.1 hcur).1;have hrow':=hrow;unfold RowO at hrow';rw [hv] at hrow' ⊢;obtain⟨m,hm⟩: ∃ m,l.length=m:=⟨_,rfl⟩
  have hS:SW w0 A n L w g m cap l.toArray w:=⟨by
   rw [←hm];refine⟨hrow'.1,.inr ⟨g,cap,cur,rfl,Nat.le_refl _,hcur,hcap,hmax,hsz,htk⟩⟩,by simpa using hm,hb0,Nat.le_trans hlow hbg,hRK,hDL,fun i hi=>?_,World.grownBy.refl _ _⟩
  ·have hpd:=H_ (fun k hk=>pdq_any cA (by omega:m≤100000) m hS 0 m k (by omega) (Nat.zero_le _) (Nat.le_refl _) hk);have hbl:=H_ (fun W=>bl_any m (by omega) W)
   have hfin:Hid (∀ k w',SW w0 A n L w g m cap (Sort.pdq (ltR L) l.toArray 0 m k true true) w'→RetSI base L v l w (.returned (.tuple #[])) w'):=by
    intro k w' h;have hps:=Sort.pdq_sorts (ltR L) (swoR L) l.toArray 0 m k true true (Nat.zero_le _) (by simp [hm]) (.inl rfl);obtain⟨d',hd'⟩: ∃ d',Sort.pdq (ltR L) l.toArray 0 m k true true=d':=⟨_,rfl⟩
    rw [hd'] at h hps;have hsz':l.toArray.size=m:=by simpa using hm
    rw [←hsz'] at hps;obtain⟨p1,p2⟩:=perm_sorted hps.1 hps.2;have e1:d'.toList=srtR L l:=srtR_unique (by simpa using p1) p2;refine⟨rfl,?_,?_⟩
    ·show World.ownsRow _ _ _ _ _ _ _;rw [hv,srtR_len,hm,←e1];exact own_base h.own hbg
    ·rw [hv];exact h.gr
   have hmb:m≤100000:=by omega
   rw [hm];clear hS hRK hDL hb0 hlow hrow hin hlen hrow' hcur hcap hmax hsz htk hm hv;go_enter Tryz.func81,Tryz.ntmps81;go_wp2_with fail;refine(hbl.out _).mono ?_;rintro e w2 ⟨k,rfl,hk,rfl⟩;have hp:=H_ (hpd.out k hk);clear hpd hbl;go_wp2_with fail;refine hp.out.mono ?_;rintro e w3 ⟨rfl,hS3⟩;have hS3H:=H_ hS3;clear hS3 hp;go_wp2_with fail;go_returns;exact hfin.out k _ hS3H.out
  ·have hi':i<l.length:=by omega
   rw [getElem!_pos _ i (by simpa using hi')];exact hin _ (by simp)
