/- Merged. -/
import Derived.Test.YtechdefolfboeaaGreatDoorPo36
set_option linter.unusedVariables false
set_option linter.unusedSimpArgs false
set_option maxRecDepth 100000
set_option maxHeartbeats 2000000
namespace Go.Proofs.YtechdefolfboeaaGreatDoor
open Go.RowKit B K
theorem scanSorted_le {lt:Int→Int→Bool} {d:Array Int} {b:Nat}: ∀ {n i:Nat},n=b-i→i≤b→i≤Sort.scanSorted lt d b i∧Sort.scanSorted lt d b i≤b:=by
 intro n
 induction n with
 |zero=>intro i h hb;rw [Sort.scanSorted,show decide (i<b)=false from F_ (by omega)];simp;exact hb
 |succ n ih=>
  intro i h hb;rw [Sort.scanSorted];split
  ·have:=ih (i:=i+1) (by omega) (by omega);omega
  ·exact⟨Nat.le_refl _,hb⟩
theorem scanSorted_go {lt:Int→Int→Bool} {d:Array Int} {b i:Nat} (h:i+1<b) (hl:lt d[i+1]! d[i]! =false):Sort.scanSorted lt d b (i+1)=Sort.scanSorted lt d b (i+2):=by
 rw [Sort.scanSorted,show decide (i+1<b)=true from T_ h,Nat.add_sub_cancel,hl];rfl
theorem scanSorted_no {lt:Int→Int→Bool} {d:Array Int} {b i:Nat} (hl:lt d[i+1]! d[i]! =true):Sort.scanSorted lt d b (i+1)=i+1:=by
 rw [Sort.scanSorted,Nat.add_sub_cancel,hl];simp
theorem scanSorted_end {lt:Int→Int→Bool} {d:Array Int} {b i:Nat} (h: ¬ i<b):Sort.scanSorted lt d b i=i:=by
 rw [Sort.scanSorted,show decide (i<b)=false from F_ h];simp
theorem shiftUp_go {lt:Int→Int→Bool} {d:Array Int} {b j:Nat} (h:j+1<b) (hl:lt d[j+1]! d[j]! =true):Sort.shiftUp lt b (j+1) d=Sort.shiftUp lt b (j+2) (Sort.swp d (j+1) j):=by
 rw [Sort.shiftUp,if_pos h,Nat.add_sub_cancel,hl];rfl
theorem shiftUp_no {lt:Int→Int→Bool} {d:Array Int} {b j:Nat} (hl:lt d[j+1]! d[j]! =false):Sort.shiftUp lt b (j+1) d=d:=by
 rw [Sort.shiftUp,Nat.add_sub_cancel,hl];simp
theorem shiftUp_end {lt:Int→Int→Bool} {d:Array Int} {b j:Nat} (h: ¬ j<b):Sort.shiftUp lt b j d=d:=by rw [Sort.shiftUp,if_neg h]
def RetPi (P:Array Int→World→Prop) (r:Array Int×Bool) (e:Ending) (w':World):Prop:=e= .returned (.bool r.2)∧P r.1 w'
theorem pi_any {w0 wS w:World} {A:Option Addr} {n g m c:Nat} {L:List RunP} {d:Array Int} (cA:Nat) (hS:SW w0 A n L wS g m c d w) (hm:m≤100000) (a b:Nat) (ha:a+1<b) (hb:b≤m):
 Calls Tryz.prog 152 #[.slice (some ⟨g,0,none⟩) m c,.int .i64 (a:Int),.int .i64 (b:Int),.func (.func 82) #[.slice A n cA] #[]] w (RetPi (SW w0 A n L wS g m c) (Sort.partialInsertionSort (ltR L) d a b)):=by
 have hS0:=H_ hS;obtain⟨R,hR⟩: ∃ R,Sort.partialInsertionSort (ltR L) d a b=R:=⟨_,rfl⟩
 rw [hR];have hR0:Hid (Sort.partialIns (ltR L) a b (5-0) (a+1) d=R):=hR;have hbb:b≤100000:=by omega
 have haa:a≤100000:=by omega
 have hab:Hid (a+1≤b):=by show _≤_;omega
 clear hS hR ha;go_enter Tryz.func152,Tryz.ntmps152;go_wp2_with fail;go_loopw [9,10] (fun iv jv wr=> ∃ (i j:Nat) (d:Array Int),a<i∧i≤b∧j≤5∧iv= .int .i64 i∧jv= .int .i64 j∧Hid (SW w0 A n L wS g m c d wr)∧Hid (Sort.partialIns (ltR L) a b (5-j) i d=R)) (fun _ jv _=>5-(intOf jv).toNat)
 case atStart=>exact⟨a+1,0,d,by omega,hab.out,by omega,by go_num,rfl,hS0,hR0⟩
 case round=>
  clear hS0 hR0 hab;obtain⟨i,j,d,l1,l2,l3,rfl,rfl,hS,hR⟩:=hrel;obtain⟨wo,rfl⟩: ∃ wo:World,wo=wr:=⟨_,rfl⟩
  by_cases hj:j<5
  ·have hjI:(j:Int)<5:=by omega
   obtain⟨s,hs⟩: ∃ s,5-j=s+1:=⟨4-j,by omega⟩
   have hs':Hid (5-(j+1)=s):=by show _=_;omega
   rw [hs,Sort.partialIns] at hR
   dsimp only at hR
   obtain⟨I,hI⟩: ∃ q,Sort.scanSorted (ltR L) d b i=q:=⟨_,rfl⟩
   rw [hI] at hR;have hIb:=scanSorted_le (lt:=ltR L) (d:=d) (n:=b-i) (i:=i) rfl l2;rw [hI] at hIb;obtain⟨b1,b2⟩:=hIb;replace hI:=H_ hI;clear hs;go_upto_block 2 with fail;go_cut [9] (fun v wx=>v= .int .i64 (I:Nat)∧Hid (SW w0 A n L wS g m c d wx))
   case first=>
    go_wp2_with fail;go_loopw [9] (fun iv wr=> ∃ i9:Nat,a<i9∧i9≤b∧iv= .int .i64 i9∧Hid (SW w0 A n L wS g m c d wr)∧Hid (Sort.scanSorted (ltR L) d b i9=I)) (fun iv _=>b-(intOf iv).toNat)
    case atStart=>exact⟨i,l1,l2,rfl,hS,hI⟩
    case round=>
     clear hS;obtain⟨i9,hi9,him9,rfl,hS,hI9⟩:=hrel;by_cases hij:i9<b
     ·obtain⟨i9,rfl⟩: ∃ k,i9=k+1:=⟨i9-1,by omega⟩
      have hijI:(i9:Int)+1<(b:Int):=by omega
      have hxm:i9+1<m:=by omega
      have hym:i9<m:=by omega
      have hxmI:(i9:Int)+1<(m:Int):=by omega
      have hymI:(i9:Int)<(m:Int):=by omega
      have hs1:IntKind.i64.wrap ((i9:Int)+1-1)=i9:=by rw [IntWalk.i64_in _ (by omega)];omega
      obtain⟨o,ho⟩: ∃ o,ordR L d[i9+1]! d[i9]! =o:=⟨_,rfl⟩
      have hcmp:Hid (∀ {U:World},Below wr.heap.size wr U→Calls Tryz.prog 82 #[.slice A n cA,.int .i64 d[i9+1]!,.int .i64 d[i9]!] U fun e w'=>e= .returned (.int .i64 o)∧Below U.heap.size U w'):=fun hU=>by rw [←ho];exact hS.out.cmp cA hxm hym hU
      have hlt:ltR L d[i9+1]! d[i9]! =decide (o<0):=by rw [←ho];rfl
      clear ho;by_cases hod:o<0
      ·have hod':decide (o<0)=true:=T_ hod;have hE:I=i9+1:=by rw [←hI9.out];exact scanSorted_no (by rw [hlt];exact hod')
       clear hI9 hlt;go_wp2_with fail;have hbW:Hid (Below wr.heap.size wr wr):=Below.refl _ _;go_upto_region 5 with fail;refine wb_ wr.heap.size ?_;intro C hC
       repeat(go_big_quiet_step (first
        |((intro _;with_reducible rfl))
        |(intro hc;have hcw:=b_ hbW hc;have m0:=(hS.out.below hcw).cell hxm;have m1:=(hS.out.below hcw).cell hym;simp only [m0,m1,Result.andThen];exact⟨trivial,rfl⟩)
        |(intro hc;have hcw:=b_ hbW hc;(with_reducible refine(hcmp.out hcw).mono ?_);rintro e w'' ⟨rfl,hw⟩;exact⟨rfl,u_ hc hw⟩)))
       refine wpQuiet_nil ?_;intro w9 hb9;clear hC;have hS9:=H_ (hS.out.below hb9);clear hb9 hbW hS;go_wp2_with fail
       go_meet
       exact⟨by rw [hE]<;>first|rfl|go_num,hS9⟩
      ·have hod':decide (o<0)=false:=F_ hod;have hN:Hid (Sort.scanSorted (ltR L) d b (i9+1+1)=I):=by show _=_;rw [←hI9.out];exact(scanSorted_go hij (by rw [hlt];exact hod')).symm
       clear hI9 hlt;go_wp2_with fail;have hbW:Hid (Below wr.heap.size wr wr):=Below.refl _ _;go_upto_region 5 with fail;refine wb_ wr.heap.size ?_;intro C hC
       repeat(go_big_quiet_step (first
        |((intro _;with_reducible rfl))
        |(intro hc;have hcw:=b_ hbW hc;have m0:=(hS.out.below hcw).cell hxm;have m1:=(hS.out.below hcw).cell hym;simp only [m0,m1,Result.andThen];exact⟨trivial,rfl⟩)
        |(intro hc;have hcw:=b_ hbW hc;(with_reducible refine(hcmp.out hcw).mono ?_);rintro e w'' ⟨rfl,hw⟩;exact⟨rfl,u_ hc hw⟩)))
       refine wpQuiet_nil ?_;intro w9 hb9;clear hC;have hS9:=H_ (hS.out.below hb9);clear hb9 hbW hS;go_wp2_with fail;go_roundw
       case rel=>exact⟨i9+1+1,by omega,by omega,by go_num,hS9,hN⟩
       case measure=>simp [intOf]<;>omega
     ·have hE:I=i9:=by rw [←hI9.out];exact scanSorted_end hij
      have hijF:decide ((i9:Int)<(b:Int))=false:=F_ (by omega);clear hI9;go_wp2_with fail;go_upto_region 5 with fail;refine wb_ wr.heap.size ?_;intro C hC
      repeat(go_big_quiet_step (first
       |((intro _;with_reducible rfl))
      ))
      refine wpQuiet_nil ?_;intro w9 hb9;clear hC;have hS9:=H_ (hS.out.below hb9);clear hb9 hS;go_wp2_with fail
      go_meet
      exact⟨by rw [hE],hS9⟩
   case' rest=>
    obtain⟨rfl,hS'⟩:=hcut;clear hS;have hS:=hS';clear hS'
   by_cases hIb:I=b
   ·have hIbI:((I:Int)==(b:Int))=true:=by simp [hIb]
    rw [if_pos hIb] at hR;clear hIb;go_wp2_with fail;go_returns;rw [←hR.out];exact⟨rfl,hS.out⟩
   ·have hIbI:((I:Int)==(b:Int))=false:=beq_eq_false_iff_ne.2 (by omega);rw [if_neg hIb] at hR;by_cases h50:b-a<50
    ·have h50I:(b:Int)-(a:Int)<50:=by omega
     rw [if_pos h50] at hR;go_wp2_with fail;go_returns;rw [←hR.out];exact⟨rfl,hS.out⟩
    ·have h50I: ¬ (b:Int)-(a:Int)<50:=by omega
     rw [if_neg h50] at hR;obtain⟨I,rfl⟩: ∃ k,I=k+1:=⟨I-1,by omega⟩
     rw [Nat.add_sub_cancel] at hR;have hIm:I+1<m:=by omega
     have hI0:I<m:=by omega
     have hImI:(I:Int)+1<(m:Int):=by omega
     have hI0I:(I:Int)<(m:Int):=by omega
     have hs1:IntKind.i64.wrap ((I:Int)+1-1)=I:=by rw [IntWalk.i64_in _ (by omega)];omega
     go_wp2_with fail;go_upto_region 11 with fail;refine wp_region_late [0,0,1,1,1,0,0,0,0,0,0,0,0,0,0,2,2,2] (by kernel_rfl) (by kernel_rfl) ?_;intro C hC;simp only [pickK,Nat.reduceEqDiff, ↓reduceIte]
     repeat(go_big_quiet_step (first
      |(intro _;with_reducible rfl)
      |(intro hc;have m0:=(hS.out.below hc).cell hIm;have m1:=(hS.out.below hc).cell hI0;simp only [m0,m1,Result.andThen];exact⟨trivial,rfl⟩)))
     refine wpQuiet_nil ?_;clear hC;intro C' hC'
     repeat(go_big_quiet_step (first|(intro _;with_reducible rfl)))
     refine wpQuiet_nil ?_;clear hC';intro wq hbq;obtain⟨W1,W2,sc1,sf1,sk1,⟨y9,sc2⟩,sf2,sk2,hS2⟩:=(hS.out.below hbq).swap hIm hI0;replace hS2:=H_ hS2;clear hbq;obtain⟨d1,hd1⟩: ∃ q,Sort.swp d (I+1) I=q:=⟨_,rfl⟩
     rw [hd1] at hR hS2;obtain⟨d2,hd2⟩: ∃ q,(if I+1-a≥2 then Sort.shiftDown (ltR L) I d1 else d1)=q:=⟨_,rfl⟩
     rw [hd2] at hR;obtain⟨d3,hd3⟩: ∃ q,(if b-(I+1)≥2 then Sort.shiftUp (ltR L) b (I+1+1) d2 else d2)=q:=⟨_,rfl⟩
     rw [hd3] at hR;have hd2H:=H_ hd2;have hd3H:=H_ hd3;clear hd1 hd2 hd3 hS hs1;go_upto_if 65 with fail;go_cut [9] (fun v9 wx=>v9= .int .i64 ((I:Int)+1)∧Hid (SW w0 A n L wS g m c d2 wx))
     case first=>
      by_cases h2:I+1-a≥2
      ·have h2I:(2:Int)≤(I:Int)+1-(a:Int):=by omega
       rw [if_pos h2] at hd2H;obtain⟨wo2,rfl⟩: ∃ wo:World,wo=W2:=⟨_,rfl⟩
       clear h2;go_wp2_with fail;go_loopw [11] (fun jv wr=> ∃ (k:Nat) (d:Array Int),k≤I∧jv= .int .i64 k∧Hid (SW w0 A n L wS g m c d wr)∧Hid (Sort.shiftDown (ltR L) k d=d2)) (fun jv _=>(intOf jv).toNat)
       case atStart=>exact⟨I,d1,Nat.le_refl _,by first|rfl|go_num,hS2,hd2H⟩
       case round=>
        clear hS2 hd2H;obtain⟨k,d,hk,rfl,hS,hD⟩:=hrel
        cases k with
        |zero=>
         have hE:Hid (d=d2):=hD.out;go_wp2_with fail
         go_meet
         exact⟨rfl,by rw [←hE.out];exact hS⟩
        |succ k=>
         have hxm:k+1<m:=by omega
         have hym:k<m:=by omega
         have hxmI:(k:Int)+1<(m:Int):=by omega
         have hymI:(k:Int)<(m:Int):=by omega
         have hs1:IntKind.i64.wrap ((k:Int)+1-1)=k:=by rw [IntWalk.i64_in _ (by omega)];omega
         obtain⟨o,ho⟩: ∃ o,ordR L d[k+1]! d[k]! =o:=⟨_,rfl⟩
         have hcmp:Hid (∀ {U:World},Below wr.heap.size wr U→Calls Tryz.prog 82 #[.slice A n cA,.int .i64 d[k+1]!,.int .i64 d[k]!] U fun e w'=>e= .returned (.int .i64 o)∧Below U.heap.size U w'):=fun hU=>by rw [←ho];exact hS.out.cmp cA hxm hym hU
         have hlt:ltR L d[k+1]! d[k]! =decide (o<0):=by rw [←ho];rfl
         clear ho;by_cases hod:o<0
         ·have hod':decide (o<0)=true:=T_ hod;have hN:Hid (Sort.shiftDown (ltR L) k (Sort.swp d (k+1) k)=d2):=by show _=_;rw [←hD.out,Sort.shiftDown,hlt,hod'];rfl
          clear hD hlt;go_wp2_with fail;have hbW:Hid (Below wr.heap.size wr wr):=Below.refl _ _;go_upto_region 16 with fail;refine wb_ wr.heap.size ?_;intro C hC
          repeat(go_big_quiet_step (first
           |((intro _;with_reducible rfl))
           |(intro hc;have hcw:=b_ hbW hc;have m0:=(hS.out.below hcw).cell hxm;have m1:=(hS.out.below hcw).cell hym;simp only [m0,m1,Result.andThen];exact⟨trivial,rfl⟩)
           |(intro hc;have hcw:=b_ hbW hc;(with_reducible refine(hcmp.out hcw).mono ?_);rintro e w'' ⟨rfl,hw⟩;exact⟨rfl,u_ hc hw⟩)))
          refine wpQuiet_nil ?_;intro w9 hb9;clear hC;have hS9:=H_ (hS.out.below hb9);clear hb9 hbW hS;go_wp2_with fail;go_upto_region 17 with fail;refine wp_region_late [0,0,1,1,1,0,0,0,0,0,0,0,0,0,0,2,2,2] (by kernel_rfl) (by kernel_rfl) ?_;intro C hC;simp only [pickK,Nat.reduceEqDiff, ↓reduceIte]
          repeat(go_big_quiet_step (first
           |(intro _;with_reducible rfl)
           |(intro hc;have m0:=(hS9.out.below hc).cell hxm;have m1:=(hS9.out.below hc).cell hym;simp only [m0,m1,Result.andThen];exact⟨trivial,rfl⟩)))
          refine wpQuiet_nil ?_;clear hC;intro C' hC'
          repeat(go_big_quiet_step (first|(intro _;with_reducible rfl)))
          refine wpQuiet_nil ?_;clear hC';intro wq hbq;obtain⟨W1,W2,sc1,sf1,sk1,⟨y9,sc2⟩,sf2,sk2,hS2⟩:=(hS9.out.below hbq).swap hxm hym;replace hS2:=H_ hS2;clear hbq;go_wp2_with fail;go_roundw
          case rel=>exact⟨k,_,by omega,by go_num,hS2,hN⟩
          case measure=>simp [intOf]<;>omega
         ·have hod':decide (o<0)=false:=F_ hod;have hE:Hid (d=d2):=by show _=_;rw [←hD.out,Sort.shiftDown,hlt,hod'];rfl
          clear hD hlt;go_wp2_with fail;have hbW:Hid (Below wr.heap.size wr wr):=Below.refl _ _;go_upto_region 16 with fail;refine wb_ wr.heap.size ?_;intro C hC
          repeat(go_big_quiet_step (first
           |((intro _;with_reducible rfl))
           |(intro hc;have hcw:=b_ hbW hc;have m0:=(hS.out.below hcw).cell hxm;have m1:=(hS.out.below hcw).cell hym;simp only [m0,m1,Result.andThen];exact⟨trivial,rfl⟩)
           |(intro hc;have hcw:=b_ hbW hc;(with_reducible refine(hcmp.out hcw).mono ?_);rintro e w'' ⟨rfl,hw⟩;exact⟨rfl,u_ hc hw⟩)))
          refine wpQuiet_nil ?_;intro w9 hb9;clear hC;have hS9:=H_ (hS.out.below hb9);clear hb9 hbW hS;go_wp2_with fail
          go_meet
          exact⟨rfl,by rw [←hE.out];exact hS9⟩
      ·have h2I: ¬ (2:Int)≤(I:Int)+1-(a:Int):=by omega
       rw [if_neg h2] at hd2H;go_wp2_with fail
       go_meet
       exact⟨rfl,by rw [←hd2H.out];exact hS2⟩
     case' rest=>
      obtain⟨rfl,hS⟩:=hcut;clear hS2
     rw [←hs'.out] at hR;by_cases h3:b-(I+1)≥2
     ·have h3I:(2:Int)≤(b:Int)-((I:Int)+1):=by omega
      rw [if_pos h3] at hd3H;obtain⟨wo3,rfl⟩: ∃ wo:World,wo=wc:=⟨_,rfl⟩
      have hk0:Hid (I+1+1≤b):=by show _≤_;omega
      clear h3;go_wp2_with fail;go_loopw [12] (fun jv wr=> ∃ (k:Nat) (d:Array Int),1≤k∧k≤b∧jv= .int .i64 k∧Hid (SW w0 A n L wS g m c d wr)∧Hid (Sort.shiftUp (ltR L) b k d=d3)) (fun jv _=>b-(intOf jv).toNat)
      case atStart=>exact⟨I+1+1,d2,by omega,hk0.out,by go_num,hS,hd3H⟩
      case round=>
       clear hS hd3H hk0 hd2H;obtain⟨k,d,hk1,hk,rfl,hS,hD⟩:=hrel;by_cases hkb:k<b
       ·obtain⟨k,rfl⟩: ∃ q,k=q+1:=⟨k-1,by omega⟩
        have hkbI:(k:Int)+1<(b:Int):=by omega
        have hxm:k+1<m:=by omega
        have hym:k<m:=by omega
        have hxmI:(k:Int)+1<(m:Int):=by omega
        have hymI:(k:Int)<(m:Int):=by omega
        have hs1:IntKind.i64.wrap ((k:Int)+1-1)=k:=by rw [IntWalk.i64_in _ (by omega)];omega
        obtain⟨o,ho⟩: ∃ o,ordR L d[k+1]! d[k]! =o:=⟨_,rfl⟩
        have hcmp:Hid (∀ {U:World},Below wr.heap.size wr U→Calls Tryz.prog 82 #[.slice A n cA,.int .i64 d[k+1]!,.int .i64 d[k]!] U fun e w'=>e= .returned (.int .i64 o)∧Below U.heap.size U w'):=fun hU=>by rw [←ho];exact hS.out.cmp cA hxm hym hU
        have hlt:ltR L d[k+1]! d[k]! =decide (o<0):=by rw [←ho];rfl
        clear ho;by_cases hod:o<0
        ·have hod':decide (o<0)=true:=T_ hod;have hN:Hid (Sort.shiftUp (ltR L) b (k+1+1) (Sort.swp d (k+1) k)=d3):=by show _=_;rw [←hD.out];exact(shiftUp_go hkb (by rw [hlt];exact hod')).symm
         clear hD hlt;go_wp2_with fail;have hbW:Hid (Below wr.heap.size wr wr):=Below.refl _ _;go_upto_region 22 with fail;refine wb_ wr.heap.size ?_;intro C hC
         repeat(go_big_quiet_step (first
          |((intro _;with_reducible rfl))
          |(intro hc;have hcw:=b_ hbW hc;have m0:=(hS.out.below hcw).cell hxm;have m1:=(hS.out.below hcw).cell hym;simp only [m0,m1,Result.andThen];exact⟨trivial,rfl⟩)
          |(intro hc;have hcw:=b_ hbW hc;(with_reducible refine(hcmp.out hcw).mono ?_);rintro e w'' ⟨rfl,hw⟩;exact⟨rfl,u_ hc hw⟩)))
         refine wpQuiet_nil ?_;intro w9 hb9;clear hC;have hS9:=H_ (hS.out.below hb9);clear hb9 hbW hS;go_wp2_with fail;go_upto_region 23 with fail;refine wp_region_late [0,0,1,1,1,0,0,0,0,0,0,0,0,0,0,2,2,2] (by kernel_rfl) (by kernel_rfl) ?_;intro C hC;simp only [pickK,Nat.reduceEqDiff, ↓reduceIte]
         repeat(go_big_quiet_step (first
          |(intro _;with_reducible rfl)
          |(intro hc;have m0:=(hS9.out.below hc).cell hxm;have m1:=(hS9.out.below hc).cell hym;simp only [m0,m1,Result.andThen];exact⟨trivial,rfl⟩)))
         refine wpQuiet_nil ?_;clear hC;intro C' hC'
         repeat(go_big_quiet_step (first|(intro _;with_reducible rfl)))
         refine wpQuiet_nil ?_;clear hC';intro wq hbq;obtain⟨W1,W2,sc1,sf1,sk1,⟨y9,sc2⟩,sf2,sk2,hS2⟩:=(hS9.out.below hbq).swap hxm hym;replace hS2:=H_ hS2;clear hbq;go_wp2_with fail;go_roundw
         case rel=>exact⟨k+1+1,_,by omega,by omega,by go_num,hS2,hN⟩
         case measure=>simp [intOf]<;>omega
        ·have hod':decide (o<0)=false:=F_ hod;have hE:Hid (d=d3):=by show _=_;rw [←hD.out];exact(shiftUp_no (by rw [hlt];exact hod')).symm
         clear hD hlt;go_wp2_with fail;have hbW:Hid (Below wr.heap.size wr wr):=Below.refl _ _;go_upto_region 22 with fail;refine wb_ wr.heap.size ?_;intro C hC
         repeat(go_big_quiet_step (first
          |((intro _;with_reducible rfl))
          |(intro hc;have hcw:=b_ hbW hc;have m0:=(hS.out.below hcw).cell hxm;have m1:=(hS.out.below hcw).cell hym;simp only [m0,m1,Result.andThen];exact⟨trivial,rfl⟩)
          |(intro hc;have hcw:=b_ hbW hc;(with_reducible refine(hcmp.out hcw).mono ?_);rintro e w'' ⟨rfl,hw⟩;exact⟨rfl,u_ hc hw⟩)))
         refine wpQuiet_nil ?_;intro w9 hb9;clear hC;have hS9:=H_ (hS.out.below hb9);clear hb9 hbW hS;have hS9':Hid (SW w0 A n L wS g m c d3 w9):=by rw [←hE.out];exact hS9
         clear hs1;go_wp2_with fail;go_roundw
         case rel=>exact⟨I+1,j+1,d3,by omega,by omega,by omega,by first|rfl|go_num,by go_num,hS9',hR⟩
         case measure=>simp [intOf]<;>omega
       ·have hkbI: ¬ (k:Int)<(b:Int):=by omega
        have hE:Hid (d=d3):=by show _=_;rw [←hD.out];exact(shiftUp_end hkb).symm
        have hS9':Hid (SW w0 A n L wS g m c d3 wr):=by rw [←hE.out];exact hS
        clear hD;go_wp2_with fail;go_roundw
        case rel=>exact⟨I+1,j+1,d3,by omega,by omega,by omega,by first|rfl|go_num,by go_num,hS9',hR⟩
        case measure=>simp [intOf]<;>omega
     ·have h3I: ¬ (2:Int)≤(b:Int)-((I:Int)+1):=by omega
      rw [if_neg h3] at hd3H;have hS9':Hid (SW w0 A n L wS g m c d3 wc):=by rw [←hd3H.out];exact hS
      go_wp2_with fail;go_roundw
      case rel=>exact⟨I+1,j+1,d3,by omega,by omega,by omega,by first|rfl|go_num,by go_num,hS9',hR⟩
      case measure=>simp [intOf]<;>omega
  ·obtain rfl:j=5:=by omega
   have hE:Hid ((d,false)=R):=hR.out;go_wp2_with fail;go_returns;rw [←hE.out];exact⟨rfl,hS.out⟩
