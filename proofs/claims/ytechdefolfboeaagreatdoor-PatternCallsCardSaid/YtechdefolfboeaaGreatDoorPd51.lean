/- Merged. -/
import Derived.Test.YtechdefolfboeaaGreatDoorPd50
set_option linter.unusedVariables false
set_option linter.unusedSimpArgs false
set_option maxRecDepth 100000
set_option maxHeartbeats 2000000
namespace Go.Proofs.YtechdefolfboeaaGreatDoor
open Go.Shelf
def lz_:Go.Shelf.Ren:=⟨fun|6=>81|15=>114|14=>113|28=>155|29=>156|20=>147|21=>148|22=>149|23=>150|24=>151|25=>152|26=>153|27=>154|46=>222|47=>223|48=>224|49=>225|50=>226|57=>245|n=>n,fun|22=>49|24=>3|25=>36|3=>3|39=>151|0=>0|53=>197|55=>199|4=>4|46=>190|45=>189|50=>194|5=>5|9=>9|66=>263|70=>267|76=>287|77=>74|n=>n,fun|n=>n⟩
theorem pD_:Go.Proofs.SlLaysF0.n6 Tryz.prog lz_:={
 mixed:=by kernel_rfl
 f6:=⟨Tryz.f81.name,by decide,Tryz.func81.trans (congrArg some (by kernel_rfl))⟩
 f14:=⟨Tryz.f113.name,by decide,Tryz.func113.trans (congrArg some (by kernel_rfl))⟩
 f15:=Tryz.func114.trans (congrArg some (by kernel_rfl))
 f20:=⟨Tryz.f147.name,by decide,Tryz.func147.trans (congrArg some (by kernel_rfl))⟩
 f21:=⟨Tryz.f148.name,by decide,Tryz.func148.trans (congrArg some (by kernel_rfl))⟩
 f22:=⟨Tryz.f149.name,by decide,Tryz.func149.trans (congrArg some (by kernel_rfl))⟩
 f23:=⟨Tryz.f150.name,by decide,Tryz.func150.trans (congrArg some (by kernel_rfl))⟩
 f24:=⟨Tryz.f151.name,by decide,Tryz.func151.trans (congrArg some (by kernel_rfl))⟩
 f25:=⟨Tryz.f152.name,by decide,Tryz.func152.trans (congrArg some (by kernel_rfl))⟩
 f26:=⟨Tryz.f153.name,by decide,Tryz.func153.trans (congrArg some (by kernel_rfl))⟩
 f27:=⟨Tryz.f154.name,by decide,Tryz.func154.trans (congrArg some (by kernel_rfl))⟩
 f28:=Tryz.func155.trans (congrArg some (by kernel_rfl))
 f29:=Tryz.func156.trans (congrArg some (by kernel_rfl))
 f46:=⟨Tryz.f222.name,by decide,Tryz.func222.trans (congrArg some (by kernel_rfl))⟩
 f47:=Tryz.func223.trans (congrArg some (by kernel_rfl))
 f48:=Tryz.func224.trans (congrArg some (by kernel_rfl))
 f49:=⟨Tryz.f225.name,by decide,Tryz.func225.trans (congrArg some (by kernel_rfl))⟩
 f50:=⟨Tryz.f226.name,by decide,Tryz.func226.trans (congrArg some (by kernel_rfl))⟩
 f57:=⟨Tryz.f245.name,by decide,Tryz.func245.trans (congrArg some (by kernel_rfl))⟩
 t0:=Tryz.underlying0
 a0:=Tryz.isAgg0
 z0:=Tryz.sizeOf0
 v0:=Tryz.zeroValue0
 t3:=Tryz.underlying3
 a3:=Tryz.isAgg3
 z3:=Tryz.sizeOf3
 v3:=Tryz.zeroValue3
 t4:=Tryz.underlying4
 a4:=Tryz.isAgg4
 z4:=Tryz.sizeOf4
 v4:=Tryz.zeroValue4
 t5:=Tryz.underlying5
 a5:=Tryz.isAgg5
 z5:=Tryz.sizeOf5
 v5:=Tryz.zeroValue5
 t9:=Tryz.underlying9
 a9:=Tryz.isAgg9
 z9:=Tryz.sizeOf9
 v9:=Tryz.zeroValue9
 t22:=Tryz.underlying49
 a22:=Tryz.isAgg49
 z22:=Tryz.sizeOf49
 v22:=Tryz.zeroValue49
 t25:=Tryz.underlying36
 a25:=Tryz.isAgg36
 z25:=Tryz.sizeOf36
 v25:=Tryz.zeroValue36
 t39:=Tryz.underlying151
 a39:=Tryz.isAgg151
 z39:=Tryz.sizeOf151
 v39:=Tryz.zeroValue151
 t45:=Tryz.underlying189
 a45:=Tryz.isAgg189
 z45:=Tryz.sizeOf189
 v45:=Tryz.zeroValue189
 t46:=Tryz.underlying190
 a46:=Tryz.isAgg190
 z46:=Tryz.sizeOf190
 v46:=Tryz.zeroValue190
 t50:=Tryz.underlying194
 a50:=Tryz.isAgg194
 z50:=Tryz.sizeOf194
 v50:=Tryz.zeroValue194
 t53:=Tryz.underlying197
 a53:=Tryz.isAgg197
 z53:=Tryz.sizeOf197
 v53:=Tryz.zeroValue197
 t55:=Tryz.underlying199
 a55:=Tryz.isAgg199
 z55:=Tryz.sizeOf199
 v55:=Tryz.zeroValue199
 t66:=Tryz.underlying263
 a66:=Tryz.isAgg263
 z66:=Tryz.sizeOf263
 v66:=Tryz.zeroValue263
 t70:=Tryz.underlying267
 a70:=Tryz.isAgg267
 z70:=Tryz.sizeOf267
 v70:=Tryz.zeroValue267
 t76:=Tryz.underlying287
 a76:=Tryz.isAgg287
 z76:=Tryz.sizeOf287
 v76:=Tryz.zeroValue287
 t77:=Tryz.underlying74
 a77:=Tryz.isAgg74
 z77:=Tryz.sizeOf74
 v77:=Tryz.zeroValue74}
def pb_:Go.Shelf.Ren:=⟨fun|48=>224|n=>n,fun|76=>287|55=>199|0=>0|66=>263|39=>151|n=>n,fun|n=>n⟩
theorem xnL:Go.Proofs.SlLaysF0.n48 Tryz.prog pb_:={
 mixed:=by kernel_rfl
 f48:=Tryz.func224.trans (congrArg some (by kernel_rfl))
 t0:=Tryz.underlying0
 a0:=Tryz.isAgg0
 z0:=Tryz.sizeOf0
 v0:=Tryz.zeroValue0
 t39:=Tryz.underlying151
 a39:=Tryz.isAgg151
 z39:=Tryz.sizeOf151
 v39:=Tryz.zeroValue151
 t55:=Tryz.underlying199
 a55:=Tryz.isAgg199
 z55:=Tryz.sizeOf199
 v55:=Tryz.zeroValue199
 t66:=Tryz.underlying263
 a66:=Tryz.isAgg263
 z66:=Tryz.sizeOf263
 v66:=Tryz.zeroValue263
 t76:=Tryz.underlying287
 a76:=Tryz.isAgg287
 z76:=Tryz.sizeOf287
 v76:=Tryz.zeroValue287}
def oT_:Go.Shelf.Ren:=⟨fun|47=>223|15=>114|28=>155|29=>156|n=>n,fun|3=>3|39=>151|53=>197|55=>199|4=>4|5=>5|9=>9|n=>n,fun|n=>n⟩
theorem npL:Go.Proofs.SlLaysF0.n47 Tryz.prog oT_:={
 mixed:=by kernel_rfl
 f15:=Tryz.func114.trans (congrArg some (by kernel_rfl))
 f28:=Tryz.func155.trans (congrArg some (by kernel_rfl))
 f29:=Tryz.func156.trans (congrArg some (by kernel_rfl))
 f47:=Tryz.func223.trans (congrArg some (by kernel_rfl))
 t3:=Tryz.underlying3
 a3:=Tryz.isAgg3
 z3:=Tryz.sizeOf3
 v3:=Tryz.zeroValue3
 t4:=Tryz.underlying4
 a4:=Tryz.isAgg4
 z4:=Tryz.sizeOf4
 v4:=Tryz.zeroValue4
 t5:=Tryz.underlying5
 a5:=Tryz.isAgg5
 z5:=Tryz.sizeOf5
 v5:=Tryz.zeroValue5
 t9:=Tryz.underlying9
 a9:=Tryz.isAgg9
 z9:=Tryz.sizeOf9
 v9:=Tryz.zeroValue9
 t39:=Tryz.underlying151
 a39:=Tryz.isAgg151
 z39:=Tryz.sizeOf151
 v39:=Tryz.zeroValue151
 t53:=Tryz.underlying197
 a53:=Tryz.isAgg197
 z53:=Tryz.sizeOf197
 v53:=Tryz.zeroValue197
 t55:=Tryz.underlying199
 a55:=Tryz.isAgg199
 z55:=Tryz.sizeOf199
 v55:=Tryz.zeroValue199}
def oH_:Go.Shelf.Ren:=⟨fun|125=>114|128=>155|129=>156|n=>n,fun|46=>151|3=>3|51=>197|53=>199|4=>4|5=>5|9=>9|n=>n,fun|n=>n⟩
theorem blL:Go.Proofs.Lays.n125 Tryz.prog oH_:={
 mixed:=by kernel_rfl
 f125:=Tryz.func114.trans (congrArg some (by kernel_rfl))
 f128:=Tryz.func155.trans (congrArg some (by kernel_rfl))
 f129:=Tryz.func156.trans (congrArg some (by kernel_rfl))
 t3:=Tryz.underlying3
 a3:=Tryz.isAgg3
 z3:=Tryz.sizeOf3
 v3:=Tryz.zeroValue3
 t4:=Tryz.underlying4
 a4:=Tryz.isAgg4
 z4:=Tryz.sizeOf4
 v4:=Tryz.zeroValue4
 t5:=Tryz.underlying5
 a5:=Tryz.isAgg5
 z5:=Tryz.sizeOf5
 v5:=Tryz.zeroValue5
 t9:=Tryz.underlying9
 a9:=Tryz.isAgg9
 z9:=Tryz.sizeOf9
 v9:=Tryz.zeroValue9
 t46:=Tryz.underlying151
 a46:=Tryz.isAgg151
 z46:=Tryz.sizeOf151
 v46:=Tryz.zeroValue151
 t51:=Tryz.underlying197
 a51:=Tryz.isAgg197
 z51:=Tryz.sizeOf197
 v51:=Tryz.zeroValue197
 t53:=Tryz.underlying199
 a53:=Tryz.isAgg199
 z53:=Tryz.sizeOf199
 v53:=Tryz.zeroValue199}
end Go.Proofs.YtechdefolfboeaaGreatDoor
namespace Go.Proofs.YtechdefolfboeaaGreatDoor
open Go.RowKit B K
theorem pF_ (bx X:Nat) (hX:X<18446744073709551616) (w:World) (hc:w.cell? ⟨bx,0,none⟩=some (.int .u64 X)) (hf:w.frozen? ⟨bx,0,none⟩=false):
 Calls Tryz.prog 224 #[.pointer (some ⟨bx,0,none⟩)] w fun e w'=>e= .returned (.int .u64 (Sort.xorNextN X:Nat))/\w'=(w.setCell ⟨bx,0,none⟩ (.int .u64 (Sort.xorNextN X:Nat))).drewN 3:=AnyF.xorshift_Next xnL bx 0 X hX w hc hf
theorem pv_ (n:Nat) (hn:n<4611686018427387904) (w:World):Calls Tryz.prog 223 #[.int .i64 n] w fun e w'=>e= .returned (.int .u64 ((1<<<Sort.bitsLen n:Nat):Int))/\w'=w:=AnyF.nextPowerOfTwo npL n hn w
theorem pk_ {w0 wS w:World} {A:Option Addr} {n g m c:Nat} {L:List RunP} {d:Array Int} (cA:Nat) (hS:SW w0 A n L wS g m c d w) (hm:m<=100000) (a b:Nat) (hab:a+12<b) (hb:b<=m):
 Calls Tryz.prog 149 #[.slice (some ⟨g,0,none⟩) m c,.int .i64 (a:Int),.int .i64 (b:Int),.func (.func 82) #[.slice A n cA] #[]] w fun e w'=>e= .returned (.tuple #[])/\SW w0 A n L wS g m c (Sort.breakPatterns d a b) w':=by
 obtain⟨R,z⟩:=e_ (Sort.breakPatterns d a b);rw [z];obtain⟨l,rfl⟩: ∃ l,b=a+l:=⟨b-a,by omega⟩
 rw [breakPatterns_eq d a l (by omega)] at z;obtain⟨M,hM⟩:=e_ (1<<<Sort.bitsLen l:Nat);have bK:1<=M:=by rw [<-hM,Nat.one_shiftLeft];exact Nat.two_pow_pos _
 have bL:M<=2*l:=by rw [<-hM,Nat.one_shiftLeft];exact Sort.two_pow_bitsLen_le (by omega)
 have T:=H_ (fun w=>pv_ l (by omega) w);rw [hM] at z T;obtain⟨q,hq⟩:=e_ (l / 4);obtain⟨y,aK⟩: ∃ i,a+q*2=i+1:=⟨a+q*2-1,by omega⟩
 rw [hq,aK,Nat.add_sub_cancel] at z;have x1:(((a+l:Nat):Int))-(a:Int)=(l:Int):=by omega
 have x2:(l:Int) / 4=(q:Int):=by omega
 have x3:(a:Int)+(q:Int)*2=(y:Int)+1:=by omega
 have bl:l<=100000:=by omega
 have ba:a<=100000:=by omega
 have bq:q<=100000:=by omega
 have bi:y+3<=a+l/\y+3<=m/\a+l<=m:=by omega
 have aJ:=H_ bi;have b8:(8:Int)<=(l:Int):=by omega
 have bJ:y<=100000:=by omega
 obtain⟨bb,aI⟩:=e_ (((a+l:Nat):Int));have aW:0<=bb/\bb<=100000:=by omega
 obtain⟨bF,bG⟩:=aW;rw [aI] at x1 ⊢;have g1:Hd (w.heap.size≠g):=by have:=hS.lt;show _≠_;omega
 have g2:Hd (wS.heap.size<=w.heap.size):=hS.gr.size;have g3:Hd (w0.heap.size<=w.heap.size):=hS.b0.size;obtain⟨w1,G,bA,P,aH,B1⟩:=box1 w 263 [.int .u64 (l:Int)];rw [P] at g1 g2 g3;have aG:=H_ (hS.below aH)
 have aA:Hd (Bx w1 G 263 [.int .u64 ((UInt64.ofNat l).toNat :Int)]):=by
  have e:(UInt64.ofNat l).toNat =l:=by simp;omega
  show Bx _ _ _ _;rw [e];exact B1
 have aF:Hd (bpRest a l M y (3-0) 0 (UInt64.ofNat l,d)=R):=z;clear bi hS aH B1 aK hq hab hb z hM aI;go_enter Tryz.func149,Tryz.ntmps149;go_wp2_with fail;refine(T.o _).mono ?_;rintro e w2 ⟨rfl,rfl⟩
 go_wp2
 clear bA P x1 T;go_loopw [11] (fun iv wr=> ∃ (t p:Nat) (r:UInt64) (d:Array Int),t<=3/\p=y+t/\iv= .int .i64 p/\Hd (SW w0 A n L wS g m c d wr)/\Hd (Bx wr G 263 [.int .u64 (r.toNat:Int)])/\Hd (bpRest a l M y (3-t) t (r,d)=R)) (fun iv _=>y+3-(intOf iv).toNat)
 ·exact⟨0,y,_,d,by omega,rfl,rfl,aG,aA,aF⟩
 ·clear aG aA aF;obtain⟨t,p,r,d,ht,hp,rfl,hS,s,z⟩:=hrel;by_cases aR:t<3
  ·have aZ:(p:Int)<=(y:Int)+1+1:=by omega
   obtain⟨X,hX⟩:=e_ r.toNat;have lX:X<18446744073709551616:=by rw [<-hX];exact r.toNat_lt
   rw [hX] at s;obtain⟨F,N⟩:=e_ (Sort.xorNextN X);have bB:F<18446744073709551616:=by rw [<-N];exact Sort.xorNextN_lt X lX
   have aU:Hd ((Sort.xorNext r).toNat =F):=by show _=_;rw [Sort.xorNext_toNat,hX,N]
   obtain⟨O,hO⟩:=e_ (F&&& (M-1):Nat);have lO:O<=M-1:=by rw [<-hO];exact Nat.and_le_right
   have bE:bits .and .u64 (F:Int) ((M:Int)-1)=(O:Int):=by
    rw [show((M:Int)-1)=((M-1:Nat):Int) by omega,bits_and_u64_nat _ _ bB (by omega),hO]
   have aE:Hd ((Sort.xorNext r).toNat &&& (M-1)=O):=by show _=_;rw [aU.o,hO]
   have D:=H_ (pF_ G X lX wr (s.o.cell 0 rfl) (s.o.frozen 0));rw [N] at D;have S:=s.o.set 0 (.int .u64 (F:Int));have f:=hS.o.but (But.of_set wr ⟨G,0,none⟩ (.int .u64 (F:Int)) (X:=[G]) (by simp)) g1.o g2.o g3.o;obtain⟨w3,aS⟩:=e_ ((wr.setCell ⟨G,0,none⟩ (.int .u64 (F:Int))));rw [aS] at S f D;have k:Below w3.heap.size w3 (w3.drewN 3):=⟨rfl,rfl,rfl,Nat.le_refl _,fun _ _=>rfl⟩
   have aB:=H_ (S.below k);have J:=H_ (f.below k);obtain⟨w4,aT⟩:=e_ (w3.drewN 3);rw [aT] at aB J D;have aO:p<m:=by have:=aJ.o;omega
   have bH:(p:Int)<(m:Int):=by omega
   have aN:=H_ hp;clear hX N hO aS aT S f k s hS hp;go_wp2_with fail;refine D.o.mono ?_;rintro e w5 ⟨rfl,rfl⟩;refine(Decidable.em (l<=O)).elim (fun h=>?zA) (fun h=>?zB)
   case' zA=>
    obtain⟨o,ho⟩:=e_ (O-l);have aX:(l:Int)<=(O:Int):=by omega
    have bM:(O:Int)-(l:Int)=(o:Int):=by omega
    have aY:o<l:=by omega
    have Y:=H_ ((bp_step a l M y t r d o aR (by rw [aE.o,if_pos h,ho])).symm.trans z.o);clear ho h
   case' zB=>
    obtain⟨o,ho⟩: ∃ o,o=O:=⟨_,rfl⟩
    subst ho;have aX: ¬ (l:Int)<=(o:Int):=by omega
    have aY:o<l:=by omega
    have Y:=H_ ((bp_step a l M y t r d o aR (by rw [aE.o,if_neg h])).symm.trans z.o);clear h
   all_goals
    obtain⟨pq,aP⟩:=e_ (a+o);rw [<-aN.o,aP] at Y;have aQ:pq<m:=by have:=aJ.o;omega
    have bI:(pq:Int)<(m:Int):=by omega
    have bN:IntKind.i64.wrap ((a:Int)+(o:Int))=(pq:Int):=by rw [IntWalk.i64_in _ (by omega)];omega
    clear aP z D
    go_wp2
    refine wl_ [0,0,1,1,1,1,0,0,0,0,0,0,0,0,0,0,0,2,2,2] ?_;intro C hC;simp only [af_,Nat.reduceEqDiff, ↓reduceIte]
    repeat(go_big_quiet_step (first
     |(intro _;with_reducible rfl)
     |(intro hc;simp only [(J.o.below hc).cell aO,(J.o.below hc).cell aQ,Result.andThen];exact⟨trivial,rfl⟩)))
    clear hC;intro C' aV
    repeat(go_big_quiet_step (first|(intro _;with_reducible rfl)))
    clear aV;intro wq Z;obtain⟨W1,W2,bO,bQ,bC,⟨y9,bP⟩,bR,bD,f⟩:=(J.o.below Z).swap aO aQ;replace f:=H_ f;have Q:=Z;clear Z;have aD:=H_ (aB.o.below Q)
    have aC:Hd (Bx W2 G 263 [.int .u64 (F:Int)]):=by
     rw [<-bD, <-bC];have n1: ∀ j v (U:World),Bx U G 263 [.int .u64 (F:Int)] ->Bx (U.setCell ⟨g,j,none⟩ v) G 263 [.int .u64 (F:Int)]:=fun j v U h=>h.keep (Below.heap_setCell _ _ _ _ fun e=>g1.o (by simpa using e));exact n1 _ _ _ (n1 _ _ _ aD.o)
    rw [<-aU.o] at aC;have aL:p+1=y+(t+1):=by have:=aN.o;omega
    have aM:=H_ aL;clear aL Q aD
    go_wp2
    go_roundw
    ·exact⟨t+1,p+1,_,_,by omega,aM.o,by go_num,f,aC,Y⟩
    ·simp [intOf]<;>omega
  ·obtain rfl:t=3:=by omega
   have aZ: ¬ (p:Int)<=(y:Int)+1+1:=by omega
   have hE:Hd (d=R):=z.o;clear hp
   go_wp2
   go_returns;exact⟨rfl,by rw [<-hE.o];exact hS.o⟩
theorem ok_ {w0 wS w:World} {A:Option Addr} {n g m c:Nat} {L:List RunP} {d:Array Int} (cA:Nat) (hS:SW w0 A n L wS g m c d w) (hm:m<=100000) (a b:Nat) (hb0:0<b) (hb:b<=m):
 Calls Tryz.prog 151 #[.slice (some ⟨g,0,none⟩) m c,.int .i64 (a:Int),.int .i64 (b:Int),.func (.func 82) #[.slice A n cA] #[]] w fun e w'=>e= .returned (.tuple #[])/\SW w0 A n L wS g m c (Sort.reverseRange d a b) w':=by
 obtain⟨k,rfl⟩: ∃ k,b=k+1:=⟨b-1,by omega⟩
 exact o5_ cA hS hm a k hb
set_option maxHeartbeats 8000000 in
theorem oY_ {w0 wS:World} {A:Option Addr} {n g m c:Nat} {L:List RunP} (cA:Nat) (hm:m<=100000): ∀ (K:Nat) {w:World} {d:Array Int} (hS:SW w0 A n L wS g m c d w) (a b limit:Nat),b-a<=K ->a<=b ->b<=m ->limit<=100 ->
 Calls Tryz.prog 113 #[.slice (some ⟨g,0,none⟩) m c,.int .i64 (a:Int),.int .i64 (b:Int),.int .i64 (limit:Int),.func (.func 82) #[.slice A n cA] #[]] w fun e w'=>e= .returned (.tuple #[])/\SW w0 A n L wS g m c (Sort.pdq (ltR L) d a b limit true true) w':=by
 intro K
 induction K using Nat.strongRecOn with
 |_ K ih=>
 intro w d hS a b limit hK bL S aU;have cT:=H_ ih;have cE:=H_ hS;obtain⟨R,hR⟩:=e_ (Sort.pdq (ltR L) d a b limit true true);rw [hR];have cD:=H_ hR;have aM:Hd (a<=b/\b<=m/\b-a<=K/\limit<=100):=⟨bL,S,hK,aU⟩
 clear hS hR ih hK bL S aU;go_enter Tryz.func113,Tryz.ntmps113
 go_wp2
 go_loopw [1,2,3,10,11] (fun va vb vl vB vP wr=> ∃ (a b limit:Nat) (wb wp:Bool) (d:Array Int),a<=b/\b<=m/\b-a<=K/\limit<=100/\va= .int .i64 a/\vb= .int .i64 b/\vl= .int .i64 limit/\vB= .bool wb/\vP= .bool wp/\Hd (SW w0 A n L wS g m c d wr)/\Hd (Sort.pdq (ltR L) d a b limit wb wp=R)) (fun va vb _ _ _ _=>(intOf vb).toNat -(intOf va).toNat)
 ·exact⟨a,b,limit,true,true,d,aM.o.1,aM.o.2.1,aM.o.2.2.1,aM.o.2.2.2,rfl,rfl,rfl,rfl,rfl,cE,cD⟩
 ·clear cE cD aM;obtain⟨a,b,limit,wb,wp,d,bL,S,hK,aU,rfl,rfl,rfl,rfl,rfl,hS,hR⟩:=hrel;obtain⟨wo,rfl⟩: ∃ wo:World,wo=wr:=⟨_,rfl⟩
  obtain⟨l,hl⟩:=e_ (b-a);have x1:(b:Int)-(a:Int)=(l:Int):=by omega
  have bb:b<=100000:=by omega
  have ba:a<=100000:=by omega
  have bl:l<=100000:=by omega
  have cM:=H_ hl;by_cases bZ:l<=12
  ·have cC:(l:Int)<=12:=by omega
   have hE:=H_ ((mI_ (lt:=ltR L) (d:=d) (a:=a) (b:=b) (limit:=limit) (wb:=wb) (wp:=wp) (by omega)).symm.trans hR.o);have aA:=H_ (oO_ cA hS.o hm a b S (by omega));rw [hE.o] at aA;clear hl hS hR;go_wp2_with fail;refine aA.o.mono ?_;rintro e w2 ⟨rfl,z⟩;have D:=H_ z;clear z aA
   go_wp2
   go_returns;exact⟨rfl,D.o⟩
  ·have cC: ¬ (l:Int)<=12:=by omega
   by_cases aL:limit=0
   ·have cK:((limit:Int)==0)=true:=by simp [aL]
    have hE:=H_ ((od_ (lt:=ltR L) (d:=d) (a:=a) (b:=b) (limit:=limit) (wb:=wb) (wp:=wp) (by omega) aL).symm.trans hR.o);have aA:=H_ (pq_ cA hS.o hm a b (by omega) S);rw [hE.o] at aA;clear hl hS hR aL;go_wp2_with fail;refine aA.o.mono ?_;rintro e w2 ⟨rfl,z⟩;have D:=H_ z;clear z aA
    go_wp2
    go_returns;exact⟨rfl,D.o⟩
   ·have cK:((limit:Int)==0)=false:=by simp [aL]
    have y:Hd (a+12<b):=by show _<_;omega
    obtain⟨d1,cH⟩:=e_ ((if !wb then Sort.breakPatterns d a b else d));obtain⟨p,bQ⟩:=e_ ((if !wb then limit-1 else limit));have Y:p<=100:=by rw [<-bQ];split<;>omega
    have aC:=H_ cH;have aH:=H_ bQ;have bH:=H_ aL;have cB:=H_ bZ;clear cH bQ hl aL bZ;go_upto_if 39 with fail;go_cut [3] (fun v3 wx=>v3= .int .i64 (p:Nat)/\Hd (SW w0 A n L wS g m c d1 wx))
    ·cases wb with
     |true=>
      have Z:d=d1:=aC.o;have e2:limit=p:=aH.o;subst Z e2
      go_wp2
      go_meet
      exact⟨rfl,hS⟩
     |false=>
      have e2:(limit:Int)-1=(p:Int):=by have:limit-1=p:=aH.o;have:=bH.o;omega
      have bN:=H_ (pk_ cA hS.o hm a b y.o S);have Z:Sort.breakPatterns d a b=d1:=aC.o;rw [Z] at bN;clear Z;go_wp2_with fail;refine bN.o.mono ?_;rintro e w2 ⟨rfl,z⟩;have D:=H_ z;clear z bN
      go_wp2
      go_meet
      exact⟨rfl,D⟩
    case' rest=>
     obtain⟨rfl,cF⟩:=hcut
    obtain⟨⟨p0,h0⟩,hc⟩: ∃ r,Sort.choosePivot (ltR L) d1 a b=r:=⟨_,rfl⟩
    have aS:=H_ (pl_ cA cF.o hm a b y.o S);have bE:=Sort.choosePivot_holds (ltR L) d1 a b (by have:=y.o;omega);rw [hc] at aS bE;simp only at bE;obtain⟨d2,cI⟩:=e_ ((if h0= .decreasing then Sort.reverseRange d1 a b else d1));obtain⟨P,bU⟩:=e_ ((if h0= .decreasing then(b-1)-(p0-a) else p0));obtain⟨X,cJ⟩:=e_ ((if h0= .decreasing then Sort.Hint.increasing else h0));have bI:a<=P/\P<b:=by rw [<-bU];have:=y.o;split<;>omega
    have aI:=H_ bE;have cG:=H_ hc;have aD:=H_ cI;have aJ:=H_ bU;have aF:=H_ cJ;have bA:=H_ bI;obtain⟨hv,bO⟩:=e_ (gR_ h0);change Hd (Calls _ _ _ _ (fun e w'=>e= .returned (.tuple #[.int .i64 (p0:Int),.int .i64 (gR_ h0)])/\SW w0 A n L wS g m c d1 w')) at aS;rw [bO] at aS;have aG:=H_ bO;clear bE hc cI bU cJ bI bO hS;go_wp2_with fail;refine aS.o.mono ?_;rintro e w2 ⟨rfl,z⟩;have D:=H_ z;clear z aS cF;go_upto_if 56 with fail;go_cut [13,14] (fun bY dA wx=>bY= .int .i64 (P:Nat)/\dA= .int .i64 (gR_ X)/\Hd (SW w0 A n L wS g m c d2 wx))
    ·by_cases aE:h0= .decreasing
     ·subst aE;have cR:hv=2:=aG.o.symm;subst cR;have Z:Sort.reverseRange d1 a b=d2:=aD.o;have e2:(b-1)-(p0-a)=P:=aJ.o;have e3:Sort.Hint.increasing=X:=aF.o;subst e3;obtain⟨e,he⟩:=e_ (p0-a);obtain⟨b1,cV⟩:=e_ (b-1);have q1:(p0:Int)-(a:Int)=(e:Int):=by have:=aI.o.1;omega
      have q2:(b:Int)-1=(b1:Int):=by have:=y.o;omega
      have q3:(b1:Int)-(e:Int)=(P:Int):=by have:=aI.o.1;have:=aI.o.2;have:=y.o;omega
      have q4:p0<=100000:=by have:=aI.o.2;omega
      have q5:e<=100000:=by omega
      have q6:b1<=100000:=by omega
      have bX:=H_ (ok_ cA D.o hm a b (by have:=y.o;omega) S);rw [Z] at bX;clear Z e2 he cV;go_wp2_with fail;refine bX.o.mono ?_;rintro e w3 ⟨rfl,j⟩;have G:=H_ j;clear j bX
      go_wp2
      go_meet
      exact⟨rfl,rfl,G⟩
     ·have cR:(hv==2)=false:=by rw [<-aG.o];cases h0<;>first|rfl|exact absurd rfl aE
      have Z:=aD.o;have e2:=aJ.o;have e3:=aF.o;rw [if_neg aE] at Z e2 e3;subst Z e2 e3;have cX:=H_ aG.o;clear aE
      go_wp2
      go_meet
      exact⟨rfl,by rw [cX.o],D⟩
    case' rest=>
     obtain⟨rfl,rfl,z⟩:=hcut
    obtain⟨cS,aT⟩:=e_ (gR_ X);obtain⟨q,hq⟩:=e_ ((wb&&wp&&decide (X= .increasing)))
    have bF:Hd ((wb&&wp&&(cS==1))=q):=by
     show _=_;rw [<-hq, <-aT]
     congr 1
     cases X<;>rfl
    simp only [aT];have cQ:=H_ hq;clear hq aT D;go_upto_region 15 with fail;go_cut [75] (fun dB wx=>dB= .bool q/\Hd (SW w0 A n L wS g m c d2 wx))
    ·cases wb with
     |false=>
      obtain rfl:false=q:=bF.o
      go_wp2
      go_meet
      exact⟨rfl,z⟩
     |true=>
      cases wp with
      |false=>
       obtain rfl:false=q:=bF.o
       go_wp2
       go_meet
       exact⟨rfl,z⟩
      |true=>
       obtain rfl:(cS==1)=q:=bF.o
       go_wp2
       go_meet
       exact⟨rfl,z⟩
    case' rest=>
     obtain⟨rfl,aN⟩:=hcut;clear z
    obtain⟨⟨d3,pi⟩,bS⟩: ∃ r,(if q then Sort.partialInsertionSort (ltR L) d2 a b else(d2,false))=r:=⟨_,rfl⟩
    have bK:=H_ (fun cZ=>(py_ (lt:=ltR L) (d:=d) (d3:=d3) (wp:=wp) (pi:=pi) (swoR L) cZ (by have:=cM.o;have:=cB.o;omega) bH.o aC.o aH.o cG.o aD.o aJ.o aF.o (by rw [cQ.o];exact bS) bA.o).symm.trans hR.o);have aX:=H_ bS;clear bS aC aH cG aD aJ aF cQ bF aG hR;go_upto_if 75 with fail;go_cut [13] (fun bY wx=>bY= .int .i64 (P:Nat)/\pi=false/\Hd (SW w0 A n L wS g m c d3 wx))
    ·cases q with
     |true=>
      have aW:=H_ (pA_ cA aN.o hm a b (by have:=y.o;omega) S);have Z:Sort.partialInsertionSort (ltR L) d2 a b=(d3,pi):=aX.o;rw [Z] at aW;clear Z
      cases pi with
      |true=>
       go_wp2_with fail;refine aW.o.mono ?_;rintro e w3 ⟨rfl,j⟩;have G:Hd (SW w0 A n L wS g m c d3 w3):=j;have hE:Hd (d3=R):=bK.o (by rw [G.o.sz];exact S);clear j aW
       go_wp2
       go_returns;rw [<-hE.o];exact⟨rfl,G.o⟩
      |false=>
       go_wp2_with fail;refine aW.o.mono ?_;rintro e w3 ⟨rfl,j⟩;have G:Hd (SW w0 A n L wS g m c d3 w3):=j;clear j aW
       go_wp2
       go_meet
       exact⟨rfl,trivial,G⟩
     |false=>
      have Z:(d2,false)=(d3,pi):=aX.o;obtain⟨rfl,rfl⟩:=Prod.mk.inj Z;clear Z
      go_wp2
      go_meet
      exact⟨rfl,trivial,aN⟩
    case' rest=>
     obtain⟨rfl,rfl,j⟩:=hcut;clear aN
    have F:Hd (f8_ (ltR L) d3 a b p wb wp P=R):=bK.o (by rw [j.o.sz];exact S);obtain⟨q2,bV⟩:=e_ ((decide (a>0)&& !ltR L d3[a-1]! d3[P]!));obtain⟨aY,aZ⟩:=bA.o;have bB:P<m:=by omega
    have cY:(P:Int)<(m:Int):=by omega
    have bJ:=H_ bV;unfold f8_ at F;rw [bV] at F;clear bV bK aX;go_upto_region 17 with fail;go_cut [97] (fun dC wx=>dC= .bool q2/\Hd (SW w0 A n L wS g m c d3 wx))
    ·by_cases cU:a=0
     ·subst cU;obtain rfl:false=q2:=by rw [<-bJ.o];simp
      go_wp2
      refine wb_ wc.heap.size ?_;intro C hC
      repeat(go_big_quiet_step (first
       |((intro _;with_reducible rfl))
      ))
      intro w9 T;clear hC;have aR:=H_ (j.o.below T);clear T j
      go_wp2
      go_meet
      exact⟨rfl,aR⟩
     ·obtain⟨a,rfl⟩: ∃ k,a=k+1:=⟨a-1,by omega⟩
      have bM:a<m:=by omega
      have dE:(a:Int)<(m:Int):=by omega
      have dH:(0:Int)<(a:Int)+1:=by omega
      have dJ:IntKind.i64.wrap ((a:Int)+1-1)=a:=by rw [IntWalk.i64_in _ (by omega)];omega
      obtain⟨d,hd⟩:=e_ d3;subst hd;obtain⟨o,ho⟩:=e_ (ordR L d3[a]! d3[P]!);have bG:Hd (∀ {U:World},Below wc.heap.size wc U ->Calls Tryz.prog 82 #[.slice A n cA,.int .i64 d3[a]!,.int .i64 d3[P]!] U (rb_ (.int .i64 o) U)):=fun hU=>by rw [<-ho];exact j.o.cmp cA bM bB hU
      have cO:ltR L d3[a]! d3[P]! =decide (o<0):=by rw [<-ho];rfl
      clear ho;have hv:=bJ.o;rw [Nat.add_sub_cancel,cO,show decide (a+1>0)=true from rfl,Bool.true_and] at hv;clear cO;by_cases cP:o<0
      ·have aV:decide (o<0)=true:=T_ cP;rw [aV] at hv;obtain rfl:false=q2:=hv;go_wp2_with fail;have i:Hd (Below wc.heap.size wc wc):=Below.refl _ _
       go_wp2
       refine wb_ wc.heap.size ?_;intro C hC
       repeat(go_big_quiet_step (first
        |((intro _;with_reducible rfl))
        |(intro hc;have M:=b_ i hc;simp only [(j.o.below M).cell bM,(j.o.below M).cell bB,Result.andThen];exact⟨trivial,rfl⟩)
        |(intro hc;have M:=b_ i hc;(with_reducible refine(bG.o M).mono ?_);rintro e dD ⟨rfl,hw⟩;exact⟨rfl,u_ hc hw⟩)))
       intro w9 T;clear hC;have aR:=H_ (j.o.below T);clear T i j
       go_wp2
       go_meet
       exact⟨rfl,aR⟩
      ·have aV:decide (o<0)=false:=F_ cP;rw [aV] at hv;obtain rfl:true=q2:=hv;go_wp2_with fail;have i:Hd (Below wc.heap.size wc wc):=Below.refl _ _
       go_wp2
       refine wb_ wc.heap.size ?_;intro C hC
       repeat(go_big_quiet_step (first
        |((intro _;with_reducible rfl))
        |(intro hc;have M:=b_ i hc;simp only [(j.o.below M).cell bM,(j.o.below M).cell bB,Result.andThen];exact⟨trivial,rfl⟩)
        |(intro hc;have M:=b_ i hc;(with_reducible refine(bG.o M).mono ?_);rintro e dD ⟨rfl,hw⟩;exact⟨rfl,u_ hc hw⟩)))
       intro w9 T;clear hC;have aR:=H_ (j.o.below T);clear T i j
       go_wp2
       go_meet
       exact⟨rfl,aR⟩
    case' rest=>
     obtain⟨rfl,aB⟩:=hcut;clear j
    cases q2 with
    |true=>
     rw [if_pos rfl] at F;have bR:=H_ (pz_ cA aB.o hm a b P aY aZ S);have N:=dL_ (lt:=ltR L) (d:=d3) (a:=a) (b:=b) (pivot:=P) (by omega);obtain⟨⟨f,d4⟩,bC⟩: ∃ r,Sort.partitionEqual (ltR L) d3 a b P=r:=⟨_,rfl⟩
     rw [bC] at bR N F;have Q:Hd (Sort.pdq (ltR L) d4 f b p wb wp=R):=F.o;have h1:a<f:=N.1;have h2:f<=b:=N.2;clear bC N F;go_wp2_with fail;refine bR.o.mono ?_;rintro e w4 ⟨rfl,aO⟩;have J:Hd (SW w0 A n L wS g m c d4 w4):=aO;clear aO bR
     go_wp2
     go_roundw
     ·exact⟨f,b,p,wb,wp,d4,h2,S,by omega,Y,rfl,rfl,rfl,rfl,rfl,J,Q⟩
     ·simp [intOf]<;>omega
    |false=>
     rw [if_neg (by simp)] at F;have bT:=H_ (pB_ cA aB.o hm a b P aY aZ S (by have:=y.o;omega));have N:=Sort.partition_holds (ltR L) (swoR L) d3 a b P aY aZ (by rw [aB.o.sz];exact S);obtain⟨⟨f,ap,d4⟩,bC⟩: ∃ r,Sort.partition (ltR L) d3 a b P=r:=⟨_,rfl⟩
     rw [bC] at bT N F;have h1:a<=f:=N.1;have h2:f<b:=N.2.1;obtain⟨ll,bP⟩:=e_ (f-a);obtain⟨rl,bW⟩:=e_ (b-f);obtain⟨l8,cL⟩:=e_ (l / 8)
     have Q:Hd ((if ll<rl then Sort.pdq (ltR L) (Sort.pdq (ltR L) d4 a f p true true) (f+1) b p (decide (ll>=l8)) ap else Sort.pdq (ltR L) (Sort.pdq (ltR L) d4 (f+1) b p true true) a f p (decide (rl>=l8)) ap)=R):=by
      show _=_;rw [<-F.o, <-bP, <-bW, <-cL, <-cM.o]
     have z1:(f:Int)-(a:Int)=(ll:Int):=by omega
     have z2:(b:Int)-(f:Int)=(rl:Int):=by omega
     have z3:(l:Int) / 8=(l8:Int):=by omega
     have bm:f<=100000:=by omega
     have cW:Hd (Calls Tryz.prog 113 #[.slice (some ⟨g,0,none⟩) m c,.int .i64 (a:Int),.int .i64 (f:Int),.int .i64 (p:Int),.func (.func 82) #[.slice A n cA] #[]]=Calls Tryz.prog 113 #[.slice (some ⟨g,0,none⟩) m c,.int .i64 (a:Int),.int .i64 (f:Int),.int .i64 (p:Int),.func (.func 82) #[.slice A n cA] #[]]):=rfl;have dF:=H_ bP;have dG:=H_ bW;clear bC N F bP bW cL cW;go_wp2_with fail;refine bT.o.mono ?_;rintro e w4 ⟨rfl,aO⟩;have J:Hd (SW w0 A n L wS g m c d4 w4):=aO;clear aO bT aB;by_cases bD:ll<rl
     ·have cN:(ll:Int)<(rl:Int):=by omega
      rw [if_pos bD] at Q;have s:=H_ (cT.o (f-a) (by omega) J.o a f p (Nat.le_refl _) h1 (by omega) Y);obtain⟨d5,aK⟩:=e_ (Sort.pdq (ltR L) d4 a f p true true);rw [aK] at s Q;clear aK bD;go_wp2_with fail;refine s.o.mono ?_;rintro e w5 ⟨rfl,aP⟩;have aQ:=H_ aP;clear aP s J
      go_wp2
      go_roundw
      ·exact⟨f+1,b,p,decide (ll>=l8),ap,d5,by omega,S,by omega,Y,by go_num,rfl,rfl,by simp,rfl,aQ,Q⟩
      ·simp [intOf]<;>omega
     ·have cN: ¬ (ll:Int)<(rl:Int):=by omega
      rw [if_neg bD] at Q;have s:=H_ (cT.o (b-(f+1)) (by omega) J.o (f+1) b p (Nat.le_refl _) (by omega) S Y);obtain⟨d5,aK⟩:=e_ (Sort.pdq (ltR L) d4 (f+1) b p true true);rw [aK,show((f+1:Nat):Int)=(f:Int)+1 by omega] at s;rw [aK] at Q;clear aK bD;go_wp2_with fail;refine s.o.mono ?_;rintro e w5 ⟨rfl,aP⟩;have aQ:=H_ aP;clear aP s J
      go_wp2
      go_roundw
      ·exact⟨a,f,p,decide (rl>=l8),ap,d5,h1,by omega,by omega,Y,rfl,rfl,rfl,by simp,rfl,aQ,Q⟩
      ·simp [intOf]<;>omega
theorem pj_ (x:Nat) (hx:x<=100000) (w:World):Calls Tryz.prog 114 #[.int .u64 (x:Int)] w fun e w'=> ∃ k:Nat,e= .returned (.int .i64 (k:Int))/\k<=100/\w'=w:=by
 have h:=Any.bits_Len blL (x:Int) w (by omega) (by omega);rw [Int.toNat_natCast,bitLen_eq _ (by omega)] at h;refine Calls.mono h fun e w' f=>⟨_,f.1,?_,f.2⟩
 have:=(Sort.bitsLen_le_iff x 17).2 (by omega);omega
theorem m7_ (mx:Nat) (hmx:mx<=100000):lH_ mx:=by
 intro A n cA L w0 w base v l N M R z p X Y;rcases p.2 with⟨J,h0⟩|⟨g,F,r,J,S,j,y,D,a,c⟩
 ·have hl:l=[]:=List.eq_nil_of_length_eq_zero h0;subst hl;rw [J];refine Calls.mono (AnyF.slices_SortFunc_none pD_ none 0 _ w) fun e d he=>⟨he.1,?_,?_⟩
  ·have s:srtR L ([]:List Int)=[]:=by simp [srtR]
   rw [s];show World.ownsRow _ _ _ _ _ _ _;rw [he.2,J];exact World.ownsRow_nil _ _ _ _
  ·rw [he.2];exact World.grownBy.refl _ _
 ·have aC:g<w.heap.size:=(Array.getElem?_eq_some_iff.1 j).1;have f:=p;unfold RowO at f;rw [J] at f ⊢;obtain⟨m,G⟩:=e_ l.length
  have hS:SW w0 A n L w g m F l.toArray w:=⟨by
   rw [<-G];refine⟨f.1,.inr ⟨g,F,r,rfl,Nat.le_refl _,j,y,D,a,c⟩⟩,by simpa using G,R,Nat.le_trans z S,N,M,fun i hi=>?_,World.grownBy.refl _ _⟩
  ·have Z:=H_ (fun k hk=>oY_ cA (by omega:m<=100000) m hS 0 m k (by omega) (Nat.zero_le _) (Nat.le_refl _) hk);have T:=H_ (fun W=>pj_ m (by omega) W)
   have U:Hd (∀ k d,SW w0 A n L w g m F (Sort.pdq (ltR L) l.toArray 0 m k true true) d ->oz_ base L v l w (.returned (.tuple #[])) d):=by
    intro k d h;have q:=Sort.pdq_sorts (ltR L) (swoR L) l.toArray 0 m k true true (Nat.zero_le _) (by simp [G]) (.inl rfl);obtain⟨d',aA⟩:=e_ (Sort.pdq (ltR L) l.toArray 0 m k true true);rw [aA] at h q;have b:l.toArray.size=m:=by simpa using G
    rw [<-b] at q;obtain⟨p1,p2⟩:=gl_ q.1 q.2;have s:d'.toList=srtR L l:=eS_ (by simpa using p1) p2;refine⟨rfl,?_,?_⟩
    ·show World.ownsRow _ _ _ _ _ _ _;rw [J,jp_,G, <-s];exact aB_ h.own S
    ·rw [J];exact h.gr
   have aD:m<=100000:=by omega
   rw [G];clear hS N M R z p X Y f j y D a c G J;go_enter Tryz.func81,Tryz.ntmps81;go_wp2_with fail;refine(T.o _).mono ?_;rintro e w2 ⟨k,rfl,hk,rfl⟩;have hp:=H_ (Z.o k hk);clear Z T;go_wp2_with fail;refine hp.o.mono ?_;rintro e w3 ⟨rfl,P⟩;have Q:=H_ P;clear P hp
   go_wp2
   go_returns;exact U.o k _ Q.o
  ·have aB:i<l.length:=by omega
   rw [getElem!_pos _ i (by simpa using aB)];exact X _ (by simp)
