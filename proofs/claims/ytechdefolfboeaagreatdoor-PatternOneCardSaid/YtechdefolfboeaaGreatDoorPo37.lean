/- Merged. -/
import Derived.Test.YtechdefolfboeaaGreatDoorPo36
set_option linter.unusedVariables false
set_option linter.unusedSimpArgs false
set_option maxRecDepth 100000
set_option maxHeartbeats 2000000
namespace Go.Proofs.YtechdefolfboeaaGreatDoor
open Go.RowKit B K
theorem scanDown_stop {p:Int→Bool} {d:Array Int} {i j:Nat} (h: ¬ i≤j):Sort.scanDown p d i j=j:=by
 cases j with
 |zero=>rfl
 |succ j=>rw [Sort.scanDown,show decide (i≤j+1)=false from F_ h];simp
theorem scanUp_ge {p:Int→Bool} {d:Array Int} {j:Nat}: ∀ {n i:Nat},n=j+1-i→i≤Sort.scanUp p d j i∧(Sort.scanUp p d j i≤j+1∨Sort.scanUp p d j i=i):=by
 intro n
 induction n with
 |zero=>intro i h;rw [Sort.scanUp,show decide (i≤j)=false from F_ (by omega)];simp
 |succ n ih=>
  intro i h;rw [Sort.scanUp];split
  ·have:=ih (i:=i+1) (by omega);constructor
   ·omega
   ·rcases this.2 with h2|h2<;>omega
  ·exact⟨Nat.le_refl _,.inr rfl⟩
theorem scanDown_le {p:Int→Bool} {d:Array Int} {i j:Nat}:Sort.scanDown p d i j≤j∧(i≤j+1→i≤Sort.scanDown p d i j+1):=by
 induction j with
 |zero=>exact⟨Nat.le_refl _,fun h=>h⟩
 |succ j ih=>
  rw [Sort.scanDown];split
  ·rename_i h;simp only [Bool.and_eq_true,decide_eq_true_eq] at h;exact⟨by omega,fun _=>ih.2 h.1⟩
  ·exact⟨Nat.le_refl _,fun h=>h⟩
theorem partLoop_eq {lt:Int→Int→Bool} {a i j I J:Nat} {d:Array Int} (h1:1≤i) (hI:Sort.scanUp (fun x=>lt x d[a]!) d j i=I) (hJ:Sort.scanDown (fun x=> !lt x d[a]!) d I j=J):
 Sort.partLoop lt a i j d=if J<I then(J,d) else Sort.partLoop lt a (I+1) (J-1) (Sort.swp d I J):=by
 have g1:=(scanUp_ge (p:=fun x=>lt x d[a]!) (d:=d) (j:=j) (n:=j+1-i) (i:=i) rfl).1;have g2:=(scanDown_le (p:=fun x=> !lt x d[a]!) (d:=d) (i:=I) (j:=j)).1;rw [hI] at g1;rw [hJ] at g2;rw [Sort.partLoop];simp only [hI,hJ];by_cases h:J<I
 ·rw [if_pos h,if_pos h]
 ·rw [if_neg h,if_neg h,dif_pos (by omega)]
def RetPt (P:Array Int→World→Prop) (r:Nat×Bool×Array Int) (e:Ending) (w':World):Prop:=e= .returned (.tuple #[.int .i64 (r.1:Int),.bool r.2.1])∧P r.2.2 w'
theorem pt_any {w0 wS w:World} {A:Option Addr} {n g m c:Nat} {L:List RunP} {d:Array Int} (cA:Nat) (hS:SW w0 A n L wS g m c d w) (hm:m≤100000) (a b pivot:Nat) (ha:a≤pivot) (hp:pivot<b) (hb:b≤m) (hab:a+1<b):
 Calls Tryz.prog 154 #[.slice (some ⟨g,0,none⟩) m c,.int .i64 (a:Int),.int .i64 (b:Int),.int .i64 (pivot:Int),.func (.func 82) #[.slice A n cA] #[]] w (RetPt (SW w0 A n L wS g m c) (Sort.partition (ltR L) d a b pivot)):=by
 have hS0:=H_ hS;obtain⟨R,hR⟩: ∃ R,Sort.partition (ltR L) d a b pivot=R:=⟨_,rfl⟩
 rw [hR];unfold Sort.partition at hR
 dsimp only at hR
 obtain⟨b,rfl⟩: ∃ k,b=k+1:=⟨b-1,by omega⟩
 rw [Nat.add_sub_cancel] at hR;have ham:a<m:=by omega
 have hpm:pivot<m:=by omega
 have hamI:(a:Int)<(m:Int):=by omega
 have hpmI:(pivot:Int)<(m:Int):=by omega
 have hbm:b<m:=by omega
 have hRH:=H_ hR;have hbc:((b+1:Nat):Int)=(b:Int)+1:=by omega
 rw [hbc];clear hS hR hbc;go_enter Tryz.func154,Tryz.ntmps154;go_wp2_with fail;go_upto_region 1 with fail;refine wp_region_late [0,0,1,1,0,0,0,0,0,0,0,0,0,2,2,2] (by kernel_rfl) (by kernel_rfl) ?_;intro C hC;simp only [pickK,Nat.reduceEqDiff, ↓reduceIte]
 repeat(go_big_quiet_step (first
  |(intro _;with_reducible rfl)
  |(intro hc;have m0:=(hS0.out.below hc).cell ham;have m1:=(hS0.out.below hc).cell hpm;simp only [m0,m1,Result.andThen];exact⟨trivial,rfl⟩)))
 refine wpQuiet_nil ?_;clear hC;intro C' hC'
 repeat(go_big_quiet_step (first|(intro _;with_reducible rfl)))
 refine wpQuiet_nil ?_;clear hC';intro wq hbq;obtain⟨W1,W2,sc1,sf1,sk1,⟨y9,sc2⟩,sf2,sk2,hS2⟩:=(hS0.out.below hbq).swap ham hpm;replace hS2:=H_ hS2;clear hbq;obtain⟨d,hd⟩: ∃ q,Sort.swp d a pivot=q:=⟨_,rfl⟩
 rw [hd] at hRH hS2;clear hd hS0;obtain⟨I,hI⟩: ∃ q,Sort.scanUp (fun x=>ltR L x d[a]!) d b (a+1)=q:=⟨_,rfl⟩
 rw [hI] at hRH;obtain⟨J,hJ⟩: ∃ q,Sort.scanDown (fun x=> !ltR L x d[a]!) d I b=q:=⟨_,rfl⟩
 rw [hJ] at hRH;have hIb:=scanUp_ge (p:=fun x=>ltR L x d[a]!) (d:=d) (j:=b) (n:=b+1-(a+1)) (i:=a+1) rfl;rw [hI] at hIb;have hJb:=scanDown_le (p:=fun x=> !ltR L x d[a]!) (d:=d) (i:=I) (j:=b);rw [hJ] at hJb;replace hI:=H_ hI;replace hJ:=H_ hJ;have hS:=hS2;clear hS2;have b1:a+1≤I:=hIb.1;have b2:I≤b+1:=by have:=hIb.2;omega
 have b3:J≤b:=hJb.1;have b4:I≤J+1:=hJb.2 (by omega);clear hIb hJb;go_upto_block 0 with fail;go_cut [12] (fun v wx=>v= .int .i64 (I:Nat)∧Hid (SW w0 A n L wS g m c d wx))
 case first=>
  go_wp2_with fail;go_loopw [12] (fun iv wr=> ∃ i9:Nat,(a+1)≤i9∧i9≤m∧iv= .int .i64 i9∧Hid (SW w0 A n L wS g m c d wr)∧Hid (Sort.scanUp (fun x=>ltR L x d[a]!) d b i9=I)) (fun iv _=>m+1-(intOf iv).toNat)
  case atStart=>exact⟨(a+1),Nat.le_refl _,by omega,by first|rfl|go_num,hS,hI⟩
  case round=>
   clear hS;obtain⟨i9,hi9,him9,rfl,hS,hI9⟩:=hrel;by_cases hij:i9≤b
   ·have hijI:(i9:Int)≤(b:Int):=by omega
    have hxm:i9<m:=by omega
    have hxmI:(i9:Int)<(m:Int):=by omega
    obtain⟨o,ho⟩: ∃ o,ordR L d[i9]! d[a]! =o:=⟨_,rfl⟩
    have hcmp:Hid (∀ {U:World},Below wr.heap.size wr U→Calls Tryz.prog 82 #[.slice A n cA,.int .i64 d[i9]!,.int .i64 d[a]!] U fun e w'=>e= .returned (.int .i64 o)∧Below U.heap.size U w'):=fun hU=>by rw [←ho];exact hS.out.cmp cA hxm ham hU
    have hlt:ltR L d[i9]! d[a]! =decide (o<0):=by rw [←ho];rfl
    clear ho;by_cases hod:o<0
    ·have hod':decide (o<0)=true:=T_ hod;have hN:Hid (Sort.scanUp (fun x=>ltR L x d[a]!) d b (i9+1)=I):=by show _=_;rw [←hI9.out];symm;rw [Sort.scanUp,show decide (i9≤b)=true from T_ hij,Bool.true_and];rw [hlt,hod'];simp
     clear hI9 hlt;go_wp2_with fail;have hbW:Hid (Below wr.heap.size wr wr):=Below.refl _ _;go_upto_region 3 with fail;refine wb_ wr.heap.size ?_;intro C hC
     repeat(go_big_quiet_step (first
      |((intro _;with_reducible rfl))
      |(intro hc;have hcw:=b_ hbW hc;have m0:=(hS.out.below hcw).cell hxm;have m1:=(hS.out.below hcw).cell ham;simp only [m0,m1,Result.andThen];exact⟨trivial,rfl⟩)
      |(intro hc;have hcw:=b_ hbW hc;(with_reducible refine(hcmp.out hcw).mono ?_);rintro e w'' ⟨rfl,hw⟩;exact⟨rfl,u_ hc hw⟩)))
     refine wpQuiet_nil ?_;intro w9 hb9;clear hC;have hS9:=H_ (hS.out.below hb9);clear hb9 hbW hS;go_wp2_with fail;go_roundw
     case rel=>exact⟨i9+1,by omega,by omega,by go_num,hS9,hN⟩
     case measure=>simp [intOf]<;>omega
    ·have hod':decide (o<0)=false:=F_ hod;have hE:I=i9:=by rw [←hI9.out];symm;rw [Sort.scanUp,show decide (i9≤b)=true from T_ hij,Bool.true_and];rw [hlt,hod'];simp
     clear hI9 hlt;go_wp2_with fail;have hbW:Hid (Below wr.heap.size wr wr):=Below.refl _ _;go_upto_region 3 with fail;refine wb_ wr.heap.size ?_;intro C hC
     repeat(go_big_quiet_step (first
      |((intro _;with_reducible rfl))
      |(intro hc;have hcw:=b_ hbW hc;have m0:=(hS.out.below hcw).cell hxm;have m1:=(hS.out.below hcw).cell ham;simp only [m0,m1,Result.andThen];exact⟨trivial,rfl⟩)
      |(intro hc;have hcw:=b_ hbW hc;(with_reducible refine(hcmp.out hcw).mono ?_);rintro e w'' ⟨rfl,hw⟩;exact⟨rfl,u_ hc hw⟩)))
     refine wpQuiet_nil ?_;intro w9 hb9;clear hC;have hS9:=H_ (hS.out.below hb9);clear hb9 hbW hS;go_wp2_with fail
     go_meet
     exact⟨by rw [hE]<;>first|rfl|go_num,hS9⟩
   ·have hE:I=i9:=by rw [←hI9.out];rw [Sort.scanUp,show decide (i9≤b)=false from F_ hij];simp
    have hijF:decide ((i9:Int)≤(b:Int))=false:=F_ (by omega);clear hI9;go_wp2_with fail;go_upto_region 3 with fail;refine wb_ wr.heap.size ?_;intro C hC
    repeat(go_big_quiet_step (first
     |((intro _;with_reducible rfl))
    ))
    refine wpQuiet_nil ?_;intro w9 hb9;clear hC;have hS9:=H_ (hS.out.below hb9);clear hb9 hS;go_wp2_with fail
    go_meet
    exact⟨by rw [hE],hS9⟩
 case' rest=>
  obtain⟨rfl,hS'⟩:=hcut;clear hS;have hS:=hS';clear hS'
 go_upto_block 2 with fail;go_cut [13] (fun v wx=>v= .int .i64 (J:Nat)∧Hid (SW w0 A n L wS g m c d wx))
 case first=>
  go_wp2_with fail;go_loopw [13] (fun jv wr=> ∃ j9:Nat,j9≤b∧jv= .int .i64 j9∧Hid (SW w0 A n L wS g m c d wr)∧Hid (Sort.scanDown (fun x=> !ltR L x d[a]!) d I j9=J)) (fun jv _=>(intOf jv).toNat)
  case atStart=>exact⟨b,Nat.le_refl _,by first|rfl|go_num,hS,hJ⟩
  case round=>
   clear hS;obtain⟨j9,hj9,rfl,hS,hI9⟩:=hrel;by_cases hij:I≤j9
   ·obtain⟨j9,rfl⟩: ∃ k,j9=k+1:=⟨j9-1,by omega⟩
    have hijI:(I:Int)≤(j9:Int)+1:=by omega
    have hxm:j9+1<m:=by omega
    have hxmI:(j9:Int)+1<(m:Int):=by omega
    obtain⟨o,ho⟩: ∃ o,ordR L d[j9+1]! d[a]! =o:=⟨_,rfl⟩
    have hcmp:Hid (∀ {U:World},Below wr.heap.size wr U→Calls Tryz.prog 82 #[.slice A n cA,.int .i64 d[j9+1]!,.int .i64 d[a]!] U fun e w'=>e= .returned (.int .i64 o)∧Below U.heap.size U w'):=fun hU=>by rw [←ho];exact hS.out.cmp cA hxm ham hU
    have hlt:ltR L d[j9+1]! d[a]! =decide (o<0):=by rw [←ho];rfl
    clear ho;by_cases hod:o<0
    ·have hod':decide (o<0)=true:=T_ hod;have hE:J=j9+1:=by rw [←hI9.out];symm;rw [Sort.scanDown,show decide (I≤j9+1)=true from T_ hij,Bool.true_and];rw [hlt,hod'];simp
     clear hI9 hlt;go_wp2_with fail;have hbW:Hid (Below wr.heap.size wr wr):=Below.refl _ _;go_upto_region 5 with fail;refine wb_ wr.heap.size ?_;intro C hC
     repeat(go_big_quiet_step (first
      |((intro _;with_reducible rfl))
      |(intro hc;have hcw:=b_ hbW hc;have m0:=(hS.out.below hcw).cell hxm;have m1:=(hS.out.below hcw).cell ham;simp only [m0,m1,Result.andThen];exact⟨trivial,rfl⟩)
      |(intro hc;have hcw:=b_ hbW hc;(with_reducible refine(hcmp.out hcw).mono ?_);rintro e w'' ⟨rfl,hw⟩;exact⟨rfl,u_ hc hw⟩)))
     refine wpQuiet_nil ?_;intro w9 hb9;clear hC;have hS9:=H_ (hS.out.below hb9);clear hb9 hbW hS;go_wp2_with fail
     go_meet
     exact⟨by rw [hE]<;>first|rfl|go_num,hS9⟩
    ·have hod':decide (o<0)=false:=F_ hod;have hN:Hid (Sort.scanDown (fun x=> !ltR L x d[a]!) d I j9=J):=by show _=_;rw [←hI9.out];symm;rw [Sort.scanDown,show decide (I≤j9+1)=true from T_ hij,Bool.true_and];rw [hlt,hod'];simp
     clear hI9 hlt;go_wp2_with fail;have hbW:Hid (Below wr.heap.size wr wr):=Below.refl _ _;go_upto_region 5 with fail;refine wb_ wr.heap.size ?_;intro C hC
     repeat(go_big_quiet_step (first
      |((intro _;with_reducible rfl))
      |(intro hc;have hcw:=b_ hbW hc;have m0:=(hS.out.below hcw).cell hxm;have m1:=(hS.out.below hcw).cell ham;simp only [m0,m1,Result.andThen];exact⟨trivial,rfl⟩)
      |(intro hc;have hcw:=b_ hbW hc;(with_reducible refine(hcmp.out hcw).mono ?_);rintro e w'' ⟨rfl,hw⟩;exact⟨rfl,u_ hc hw⟩)))
     refine wpQuiet_nil ?_;intro w9 hb9;clear hC;have hS9:=H_ (hS.out.below hb9);clear hb9 hbW hS;go_wp2_with fail;go_roundw
     case rel=>exact⟨j9,by omega,by go_num,hS9,hN⟩
     case measure=>simp [intOf]<;>omega
   ·have hE:J=j9:=by rw [←hI9.out];exact scanDown_stop hij
    have hijF:decide ((I:Int)≤(j9:Int))=false:=F_ (by omega);clear hI9;go_wp2_with fail;go_upto_region 5 with fail;refine wb_ wr.heap.size ?_;intro C hC
    repeat(go_big_quiet_step (first
     |((intro _;with_reducible rfl))
    ))
    refine wpQuiet_nil ?_;intro w9 hb9;clear hC;have hS9:=H_ (hS.out.below hb9);clear hb9 hS;go_wp2_with fail
    go_meet
    exact⟨by rw [hE],hS9⟩
 case' rest=>
  obtain⟨rfl,hS'⟩:=hcut;clear hS;have hS:=hS';clear hS'
 by_cases hIJ:J<I
 ·have hIJI:(J:Int)<(I:Int):=by omega
  have hJm:J<m:=by omega
  have hJmI:(J:Int)<(m:Int):=by omega
  rw [if_pos hIJ] at hRH;go_wp2_with fail;go_upto_region 8 with fail;refine wp_region_late [0,0,1,1,0,0,0,0,0,0,0,0,0,2,2,2] (by kernel_rfl) (by kernel_rfl) ?_;intro C hC;simp only [pickK,Nat.reduceEqDiff, ↓reduceIte]
  repeat(go_big_quiet_step (first
   |(intro _;with_reducible rfl)
   |(intro hc;have m0:=(hS.out.below hc).cell hJm;have m1:=(hS.out.below hc).cell ham;simp only [m0,m1,Result.andThen];exact⟨trivial,rfl⟩)))
  refine wpQuiet_nil ?_;clear hC;intro C' hC'
  repeat(go_big_quiet_step (first|(intro _;with_reducible rfl)))
  refine wpQuiet_nil ?_;clear hC';intro wq hbq;obtain⟨W1,W2,sc1,sf1,sk1,⟨y9,sc2⟩,sf2,sk2,hS2⟩:=(hS.out.below hbq).swap hJm ham;replace hS2:=H_ hS2;clear hbq;go_wp2_with fail;go_returns;rw [←hRH.out];exact⟨rfl,hS2.out⟩
 ·have hIJI: ¬ (J:Int)<(I:Int):=by omega
  rw [if_neg hIJ] at hRH;obtain⟨J,rfl⟩: ∃ k,J=k+1:=⟨J-1,by omega⟩
  have hIm:I<m:=by omega
  have hJm:J+1<m:=by omega
  have hImI:(I:Int)<(m:Int):=by omega
  have hJmI:(J:Int)+1<(m:Int):=by omega
  rw [Nat.add_sub_cancel] at hRH;go_wp2_with fail;go_upto_region 10 with fail;refine wp_region_late [0,0,1,1,0,0,0,0,0,0,0,0,0,2,2,2] (by kernel_rfl) (by kernel_rfl) ?_;intro C hC;simp only [pickK,Nat.reduceEqDiff, ↓reduceIte]
  repeat(go_big_quiet_step (first
   |(intro _;with_reducible rfl)
   |(intro hc;have m0:=(hS.out.below hc).cell hIm;have m1:=(hS.out.below hc).cell hJm;simp only [m0,m1,Result.andThen];exact⟨trivial,rfl⟩)))
  refine wpQuiet_nil ?_;clear hC;intro C' hC'
  repeat(go_big_quiet_step (first|(intro _;with_reducible rfl)))
  refine wpQuiet_nil ?_;clear hC';intro wq hbq;obtain⟨W1,W2,sc1,sf1,sk1,⟨y9,sc2⟩,sf2,sk2,hS2⟩:=(hS.out.below hbq).swap hIm hJm;replace hS2:=H_ hS2;clear hbq;obtain⟨d2,hd2⟩: ∃ q,Sort.swp d I (J+1)=q:=⟨_,rfl⟩
  rw [hd2] at hRH hS2;obtain⟨PR,hPR⟩: ∃ r,Sort.partLoop (ltR L) a (I+1) J d2=r:=⟨_,rfl⟩
  rw [hPR] at hRH;have hP0:=H_ hPR;have hL0:Hid (I+1≤m∧I+1≤J+2∧J<m∧a<I+1):=by show _∧_;omega
  clear hd2 hPR hI hJ hS hIJ hIJI hIm hJm b1 b2 b3 b4 hbm;go_wp2_with fail;go_loopw [12,13] (fun iv jv wr=> ∃ (i j:Nat) (d:Array Int),i≤m∧i≤j+2∧j<m∧a<i∧iv= .int .i64 i∧jv= .int .i64 j∧Hid (SW w0 A n L wS g m c d wr)∧Hid (Sort.partLoop (ltR L) a i j d=PR)) (fun iv jv _=>(intOf jv).toNat +1-(intOf iv).toNat)
  case atStart=>exact⟨I+1,J,d2,hL0.out.1,hL0.out.2.1,hL0.out.2.2.1,hL0.out.2.2.2,by go_num,by first|rfl|go_num,hS2,hP0⟩
  case round=>
   clear hS2 hP0 hL0 hImI hJmI;obtain⟨i,j,d,l1,l2,l3,l4,rfl,rfl,hS,hP⟩:=hrel;obtain⟨wo,rfl⟩: ∃ wo:World,wo=wr:=⟨_,rfl⟩
   obtain⟨I,hI⟩: ∃ q,Sort.scanUp (fun x=>ltR L x d[a]!) d j i=q:=⟨_,rfl⟩
   obtain⟨J,hJ⟩: ∃ q,Sort.scanDown (fun x=> !ltR L x d[a]!) d I j=q:=⟨_,rfl⟩
   have hIb:=scanUp_ge (p:=fun x=>ltR L x d[a]!) (d:=d) (j:=j) (n:=j+1-i) (i:=i) rfl;rw [hI] at hIb;have hJb:=scanDown_le (p:=fun x=> !ltR L x d[a]!) (d:=d) (i:=I) (j:=j);rw [hJ] at hJb;have hPe:=H_ (partLoop_eq (lt:=ltR L) (a:=a) (i:=i) (j:=j) (d:=d) (by omega) hI hJ);replace hI:=H_ hI;replace hJ:=H_ hJ;have b1:i≤I:=hIb.1;have b2:I≤m:=by have:=hIb.2;omega
   have b3:J≤j:=hJb.1;clear hIb hJb;go_upto_block 6 with fail;go_cut [12] (fun v wx=>v= .int .i64 (I:Nat)∧Hid (SW w0 A n L wS g m c d wx))
   case first=>
    go_wp2_with fail;go_loopw [12] (fun iv wr=> ∃ i9:Nat,i≤i9∧i9≤m∧iv= .int .i64 i9∧Hid (SW w0 A n L wS g m c d wr)∧Hid (Sort.scanUp (fun x=>ltR L x d[a]!) d j i9=I)) (fun iv _=>m+1-(intOf iv).toNat)
    case atStart=>exact⟨i,Nat.le_refl _,by omega,by first|rfl|go_num,hS,hI⟩
    case round=>
     clear hS;obtain⟨i9,hi9,him9,rfl,hS,hI9⟩:=hrel;by_cases hij:i9≤j
     ·have hijI:(i9:Int)≤(j:Int):=by omega
      have hxm:i9<m:=by omega
      have hxmI:(i9:Int)<(m:Int):=by omega
      obtain⟨o,ho⟩: ∃ o,ordR L d[i9]! d[a]! =o:=⟨_,rfl⟩
      have hcmp:Hid (∀ {U:World},Below wr.heap.size wr U→Calls Tryz.prog 82 #[.slice A n cA,.int .i64 d[i9]!,.int .i64 d[a]!] U fun e w'=>e= .returned (.int .i64 o)∧Below U.heap.size U w'):=fun hU=>by rw [←ho];exact hS.out.cmp cA hxm ham hU
      have hlt:ltR L d[i9]! d[a]! =decide (o<0):=by rw [←ho];rfl
      clear ho;by_cases hod:o<0
      ·have hod':decide (o<0)=true:=T_ hod;have hN:Hid (Sort.scanUp (fun x=>ltR L x d[a]!) d j (i9+1)=I):=by show _=_;rw [←hI9.out];symm;rw [Sort.scanUp,show decide (i9≤j)=true from T_ hij,Bool.true_and];rw [hlt,hod'];simp
       clear hI9 hlt;go_wp2_with fail;have hbW:Hid (Below wr.heap.size wr wr):=Below.refl _ _;go_upto_region 13 with fail;refine wb_ wr.heap.size ?_;intro C hC
       repeat(go_big_quiet_step (first
        |((intro _;with_reducible rfl))
        |(intro hc;have hcw:=b_ hbW hc;have m0:=(hS.out.below hcw).cell hxm;have m1:=(hS.out.below hcw).cell ham;simp only [m0,m1,Result.andThen];exact⟨trivial,rfl⟩)
        |(intro hc;have hcw:=b_ hbW hc;(with_reducible refine(hcmp.out hcw).mono ?_);rintro e w'' ⟨rfl,hw⟩;exact⟨rfl,u_ hc hw⟩)))
       refine wpQuiet_nil ?_;intro w9 hb9;clear hC;have hS9:=H_ (hS.out.below hb9);clear hb9 hbW hS;go_wp2_with fail;go_roundw
       case rel=>exact⟨i9+1,by omega,by omega,by go_num,hS9,hN⟩
       case measure=>simp [intOf]<;>omega
      ·have hod':decide (o<0)=false:=F_ hod;have hE:I=i9:=by rw [←hI9.out];symm;rw [Sort.scanUp,show decide (i9≤j)=true from T_ hij,Bool.true_and];rw [hlt,hod'];simp
       clear hI9 hlt;go_wp2_with fail;have hbW:Hid (Below wr.heap.size wr wr):=Below.refl _ _;go_upto_region 13 with fail;refine wb_ wr.heap.size ?_;intro C hC
       repeat(go_big_quiet_step (first
        |((intro _;with_reducible rfl))
        |(intro hc;have hcw:=b_ hbW hc;have m0:=(hS.out.below hcw).cell hxm;have m1:=(hS.out.below hcw).cell ham;simp only [m0,m1,Result.andThen];exact⟨trivial,rfl⟩)
        |(intro hc;have hcw:=b_ hbW hc;(with_reducible refine(hcmp.out hcw).mono ?_);rintro e w'' ⟨rfl,hw⟩;exact⟨rfl,u_ hc hw⟩)))
       refine wpQuiet_nil ?_;intro w9 hb9;clear hC;have hS9:=H_ (hS.out.below hb9);clear hb9 hbW hS;go_wp2_with fail
       go_meet
       exact⟨by rw [hE]<;>first|rfl|go_num,hS9⟩
     ·have hE:I=i9:=by rw [←hI9.out];rw [Sort.scanUp,show decide (i9≤j)=false from F_ hij];simp
      have hijF:decide ((i9:Int)≤(j:Int))=false:=F_ (by omega);clear hI9;go_wp2_with fail;go_upto_region 13 with fail;refine wb_ wr.heap.size ?_;intro C hC
      repeat(go_big_quiet_step (first
       |((intro _;with_reducible rfl))
      ))
      refine wpQuiet_nil ?_;intro w9 hb9;clear hC;have hS9:=H_ (hS.out.below hb9);clear hb9 hS;go_wp2_with fail
      go_meet
      exact⟨by rw [hE],hS9⟩
   case' rest=>
    obtain⟨rfl,hS'⟩:=hcut;clear hS;have hS:=hS';clear hS'
   go_upto_block 8 with fail;go_cut [13] (fun v wx=>v= .int .i64 (J:Nat)∧Hid (SW w0 A n L wS g m c d wx))
   case first=>
    go_wp2_with fail;go_loopw [13] (fun jv wr=> ∃ j9:Nat,j9≤j∧jv= .int .i64 j9∧Hid (SW w0 A n L wS g m c d wr)∧Hid (Sort.scanDown (fun x=> !ltR L x d[a]!) d I j9=J)) (fun jv _=>(intOf jv).toNat)
    case atStart=>exact⟨j,Nat.le_refl _,by first|rfl|go_num,hS,hJ⟩
    case round=>
     clear hS;obtain⟨j9,hj9,rfl,hS,hI9⟩:=hrel;by_cases hij:I≤j9
     ·obtain⟨j9,rfl⟩: ∃ k,j9=k+1:=⟨j9-1,by omega⟩
      have hijI:(I:Int)≤(j9:Int)+1:=by omega
      have hxm:j9+1<m:=by omega
      have hxmI:(j9:Int)+1<(m:Int):=by omega
      obtain⟨o,ho⟩: ∃ o,ordR L d[j9+1]! d[a]! =o:=⟨_,rfl⟩
      have hcmp:Hid (∀ {U:World},Below wr.heap.size wr U→Calls Tryz.prog 82 #[.slice A n cA,.int .i64 d[j9+1]!,.int .i64 d[a]!] U fun e w'=>e= .returned (.int .i64 o)∧Below U.heap.size U w'):=fun hU=>by rw [←ho];exact hS.out.cmp cA hxm ham hU
      have hlt:ltR L d[j9+1]! d[a]! =decide (o<0):=by rw [←ho];rfl
      clear ho;by_cases hod:o<0
      ·have hod':decide (o<0)=true:=T_ hod;have hE:J=j9+1:=by rw [←hI9.out];symm;rw [Sort.scanDown,show decide (I≤j9+1)=true from T_ hij,Bool.true_and];rw [hlt,hod'];simp
       clear hI9 hlt;go_wp2_with fail;have hbW:Hid (Below wr.heap.size wr wr):=Below.refl _ _;go_upto_region 15 with fail;refine wb_ wr.heap.size ?_;intro C hC
       repeat(go_big_quiet_step (first
        |((intro _;with_reducible rfl))
        |(intro hc;have hcw:=b_ hbW hc;have m0:=(hS.out.below hcw).cell hxm;have m1:=(hS.out.below hcw).cell ham;simp only [m0,m1,Result.andThen];exact⟨trivial,rfl⟩)
        |(intro hc;have hcw:=b_ hbW hc;(with_reducible refine(hcmp.out hcw).mono ?_);rintro e w'' ⟨rfl,hw⟩;exact⟨rfl,u_ hc hw⟩)))
       refine wpQuiet_nil ?_;intro w9 hb9;clear hC;have hS9:=H_ (hS.out.below hb9);clear hb9 hbW hS;go_wp2_with fail
       go_meet
       exact⟨by rw [hE]<;>first|rfl|go_num,hS9⟩
      ·have hod':decide (o<0)=false:=F_ hod;have hN:Hid (Sort.scanDown (fun x=> !ltR L x d[a]!) d I j9=J):=by show _=_;rw [←hI9.out];symm;rw [Sort.scanDown,show decide (I≤j9+1)=true from T_ hij,Bool.true_and];rw [hlt,hod'];simp
       clear hI9 hlt;go_wp2_with fail;have hbW:Hid (Below wr.heap.size wr wr):=Below.refl _ _;go_upto_region 15 with fail;refine wb_ wr.heap.size ?_;intro C hC
       repeat(go_big_quiet_step (first
        |((intro _;with_reducible rfl))
        |(intro hc;have hcw:=b_ hbW hc;have m0:=(hS.out.below hcw).cell hxm;have m1:=(hS.out.below hcw).cell ham;simp only [m0,m1,Result.andThen];exact⟨trivial,rfl⟩)
        |(intro hc;have hcw:=b_ hbW hc;(with_reducible refine(hcmp.out hcw).mono ?_);rintro e w'' ⟨rfl,hw⟩;exact⟨rfl,u_ hc hw⟩)))
       refine wpQuiet_nil ?_;intro w9 hb9;clear hC;have hS9:=H_ (hS.out.below hb9);clear hb9 hbW hS;go_wp2_with fail;go_roundw
       case rel=>exact⟨j9,by omega,by go_num,hS9,hN⟩
       case measure=>simp [intOf]<;>omega
     ·have hE:J=j9:=by rw [←hI9.out];exact scanDown_stop hij
      have hijF:decide ((I:Int)≤(j9:Int))=false:=F_ (by omega);clear hI9;go_wp2_with fail;go_upto_region 15 with fail;refine wb_ wr.heap.size ?_;intro C hC
      repeat(go_big_quiet_step (first
       |((intro _;with_reducible rfl))
      ))
      refine wpQuiet_nil ?_;intro w9 hb9;clear hC;have hS9:=H_ (hS.out.below hb9);clear hb9 hS;go_wp2_with fail
      go_meet
      exact⟨by rw [hE],hS9⟩
   case' rest=>
    obtain⟨rfl,hS'⟩:=hcut;clear hS;have hS:=hS';clear hS'
   by_cases hIJ:J<I
   ·have hIJI:(J:Int)<(I:Int):=by omega
    have hJm:J<m:=by omega
    have hJmI:(J:Int)<(m:Int):=by omega
    have hE:Hid ((J,d)=PR):=by show _=_;rw [←hP.out,hPe.out,if_pos hIJ]
    rw [←hE.out] at hRH;clear hP hPe hE;go_wp2_with fail;go_upto_region 21 with fail;refine wp_region_late [0,0,1,1,0,0,0,0,0,0,0,0,0,2,2,2] (by kernel_rfl) (by kernel_rfl) ?_;intro C hC;simp only [pickK,Nat.reduceEqDiff, ↓reduceIte]
    repeat(go_big_quiet_step (first
     |(intro _;with_reducible rfl)
     |(intro hc;have m0:=(hS.out.below hc).cell hJm;have m1:=(hS.out.below hc).cell ham;simp only [m0,m1,Result.andThen];exact⟨trivial,rfl⟩)))
    refine wpQuiet_nil ?_;clear hC;intro C' hC'
    repeat(go_big_quiet_step (first|(intro _;with_reducible rfl)))
    refine wpQuiet_nil ?_;clear hC';intro wq hbq;obtain⟨W1,W2,sc1,sf1,sk1,⟨y9,sc2⟩,sf2,sk2,hS2⟩:=(hS.out.below hbq).swap hJm ham;replace hS2:=H_ hS2;clear hbq;go_wp2_with fail;go_returns;rw [←hRH.out];exact⟨rfl,hS2.out⟩
   ·have hIJI: ¬ (J:Int)<(I:Int):=by omega
    obtain⟨J,rfl⟩: ∃ k,J=k+1:=⟨J-1,by omega⟩
    have hIm:I<m:=by omega
    have hJm:J+1<m:=by omega
    have hImI:(I:Int)<(m:Int):=by omega
    have hJmI:(J:Int)+1<(m:Int):=by omega
    have hPn:Hid (Sort.partLoop (ltR L) a (I+1) J (Sort.swp d I (J+1))=PR):=by show _=_;rw [←hP.out,hPe.out,if_neg hIJ,Nat.add_sub_cancel]
    clear hP hPe;go_wp2_with fail;go_upto_region 18 with fail;refine wp_region_late [0,0,1,1,0,0,0,0,0,0,0,0,0,2,2,2] (by kernel_rfl) (by kernel_rfl) ?_;intro C hC;simp only [pickK,Nat.reduceEqDiff, ↓reduceIte]
    repeat(go_big_quiet_step (first
     |(intro _;with_reducible rfl)
     |(intro hc;have m0:=(hS.out.below hc).cell hIm;have m1:=(hS.out.below hc).cell hJm;simp only [m0,m1,Result.andThen];exact⟨trivial,rfl⟩)))
    refine wpQuiet_nil ?_;clear hC;intro C' hC'
    repeat(go_big_quiet_step (first|(intro _;with_reducible rfl)))
    refine wpQuiet_nil ?_;clear hC';intro wq hbq;obtain⟨W1,W2,sc1,sf1,sk1,⟨y9,sc2⟩,sf2,sk2,hS2⟩:=(hS.out.below hbq).swap hIm hJm;replace hS2:=H_ hS2;clear hbq;go_wp2_with fail;go_roundw
    case rel=>exact⟨I+1,J,_,by omega,by omega,by omega,by omega,by go_num,by first|rfl|go_num,hS2,hPn⟩
    case measure=>simp [intOf]<;>omega
theorem partEqLoop_eq {lt:Int→Int→Bool} {a i j I J:Nat} {d:Array Int} (h1:1≤i) (hI:Sort.scanUp (fun x=> !lt d[a]! x) d j i=I) (hJ:Sort.scanDown (fun x=>lt d[a]! x) d I j=J):
 Sort.partEqLoop lt a i j d=if J<I then(I,d) else Sort.partEqLoop lt a (I+1) (J-1) (Sort.swp d I J):=by
 have g1:=(scanUp_ge (p:=fun x=> !lt d[a]! x) (d:=d) (j:=j) (n:=j+1-i) (i:=i) rfl).1;have g2:=(scanDown_le (p:=fun x=>lt d[a]! x) (d:=d) (i:=I) (j:=j)).1;rw [hI] at g1;rw [hJ] at g2;rw [Sort.partEqLoop];simp only [hI,hJ];by_cases h:J<I
 ·rw [if_pos h,if_pos h]
 ·rw [if_neg h,if_neg h,dif_pos (by omega)]
def RetPe (P:Array Int→World→Prop) (r:Nat×Array Int) (e:Ending) (w':World):Prop:=e= .returned (.int .i64 (r.1:Int))∧P r.2 w'
theorem pe_any {w0 wS w:World} {A:Option Addr} {n g m c:Nat} {L:List RunP} {d:Array Int} (cA:Nat) (hS:SW w0 A n L wS g m c d w) (hm:m≤100000) (a b pivot:Nat) (ha:a≤pivot) (hp:pivot<b) (hb:b≤m):
 Calls Tryz.prog 153 #[.slice (some ⟨g,0,none⟩) m c,.int .i64 (a:Int),.int .i64 (b:Int),.int .i64 (pivot:Int),.func (.func 82) #[.slice A n cA] #[]] w (RetPe (SW w0 A n L wS g m c) (Sort.partitionEqual (ltR L) d a b pivot)):=by
 have hS0:=H_ hS;obtain⟨R,hR⟩: ∃ R,Sort.partitionEqual (ltR L) d a b pivot=R:=⟨_,rfl⟩
 rw [hR];unfold Sort.partitionEqual at hR;obtain⟨b,rfl⟩: ∃ k,b=k+1:=⟨b-1,by omega⟩
 rw [Nat.add_sub_cancel] at hR;have ham:a<m:=by omega
 have hpm:pivot<m:=by omega
 have hamI:(a:Int)<(m:Int):=by omega
 have hpmI:(pivot:Int)<(m:Int):=by omega
 have hbm:b<m:=by omega
 have hR0:=H_ hR;have hbc:((b+1:Nat):Int)=(b:Int)+1:=by omega
 have hL0:Hid (a+1≤m∧a+1≤b+2∧b<m∧a<a+1):=by show _∧_;omega
 rw [hbc];clear hS hR hbc;go_enter Tryz.func153,Tryz.ntmps153;go_wp2_with fail;go_upto_region 1 with fail;refine wp_region_late [0,0,1,1,0,0,0,0,0,0,0,0,0,2,2,2] (by kernel_rfl) (by kernel_rfl) ?_;intro C hC;simp only [pickK,Nat.reduceEqDiff, ↓reduceIte]
 repeat(go_big_quiet_step (first
  |(intro _;with_reducible rfl)
  |(intro hc;have m0:=(hS0.out.below hc).cell ham;have m1:=(hS0.out.below hc).cell hpm;simp only [m0,m1,Result.andThen];exact⟨trivial,rfl⟩)))
 refine wpQuiet_nil ?_;clear hC;intro C' hC'
 repeat(go_big_quiet_step (first|(intro _;with_reducible rfl)))
 refine wpQuiet_nil ?_;clear hC';intro wq hbq;obtain⟨W1,W2,sc1,sf1,sk1,⟨y9,sc2⟩,sf2,sk2,hS2⟩:=(hS0.out.below hbq).swap ham hpm;replace hS2:=H_ hS2;clear hbq;obtain⟨d2,hd2⟩: ∃ q,Sort.swp d a pivot=q:=⟨_,rfl⟩
 rw [hd2] at hR0 hS2;clear hd2 hS0;go_wp2_with fail;go_loopw [11,12] (fun iv jv wr=> ∃ (i j:Nat) (d:Array Int),i≤m∧i≤j+2∧j<m∧a<i∧iv= .int .i64 i∧jv= .int .i64 j∧Hid (SW w0 A n L wS g m c d wr)∧Hid (Sort.partEqLoop (ltR L) a i j d=R)) (fun iv jv _=>(intOf jv).toNat +1-(intOf iv).toNat)
 case atStart=>exact⟨a+1,b,d2,hL0.out.1,hL0.out.2.1,hL0.out.2.2.1,hL0.out.2.2.2,by go_num,by first|rfl|go_num,hS2,hR0⟩
 case round=>
  clear hS2 hR0 hL0 hp hpm hpmI hb ha;obtain⟨i,j,d,l1,l2,l3,l4,rfl,rfl,hS,hP⟩:=hrel;obtain⟨wo,rfl⟩: ∃ wo:World,wo=wr:=⟨_,rfl⟩
  obtain⟨I,hI⟩: ∃ q,Sort.scanUp (fun x=> !ltR L d[a]! x) d j i=q:=⟨_,rfl⟩
  obtain⟨J,hJ⟩: ∃ q,Sort.scanDown (fun x=>ltR L d[a]! x) d I j=q:=⟨_,rfl⟩
  have hIb:=scanUp_ge (p:=fun x=> !ltR L d[a]! x) (d:=d) (j:=j) (n:=j+1-i) (i:=i) rfl;rw [hI] at hIb;have hJb:=scanDown_le (p:=fun x=>ltR L d[a]! x) (d:=d) (i:=I) (j:=j);rw [hJ] at hJb;have hPe:=H_ (partEqLoop_eq (lt:=ltR L) (a:=a) (i:=i) (j:=j) (d:=d) (by omega) hI hJ);replace hI:=H_ hI;replace hJ:=H_ hJ;have b1:i≤I:=hIb.1;have b2:I≤m:=by have:=hIb.2;omega
  have b3:J≤j:=hJb.1;clear hIb hJb;go_upto_block 2 with fail;go_cut [11] (fun v wx=>v= .int .i64 (I:Nat)∧Hid (SW w0 A n L wS g m c d wx))
  case first=>
   go_wp2_with fail;go_loopw [11] (fun iv wr=> ∃ i9:Nat,i≤i9∧i9≤m∧iv= .int .i64 i9∧Hid (SW w0 A n L wS g m c d wr)∧Hid (Sort.scanUp (fun x=> !ltR L d[a]! x) d j i9=I)) (fun iv _=>m+1-(intOf iv).toNat)
   case atStart=>exact⟨i,Nat.le_refl _,by omega,by first|rfl|go_num,hS,hI⟩
   case round=>
    clear hS;obtain⟨i9,hi9,him9,rfl,hS,hI9⟩:=hrel;by_cases hij:i9≤j
    ·have hijI:(i9:Int)≤(j:Int):=by omega
     have hxm:i9<m:=by omega
     have hxmI:(i9:Int)<(m:Int):=by omega
     obtain⟨o,ho⟩: ∃ o,ordR L d[a]! d[i9]! =o:=⟨_,rfl⟩
     have hcmp:Hid (∀ {U:World},Below wr.heap.size wr U→Calls Tryz.prog 82 #[.slice A n cA,.int .i64 d[a]!,.int .i64 d[i9]!] U fun e w'=>e= .returned (.int .i64 o)∧Below U.heap.size U w'):=fun hU=>by rw [←ho];exact hS.out.cmp cA ham hxm hU
     have hlt:ltR L d[a]! d[i9]! =decide (o<0):=by rw [←ho];rfl
     clear ho;by_cases hod:o<0
     ·have hod':decide (o<0)=true:=T_ hod;have hE:I=i9:=by rw [←hI9.out];symm;rw [Sort.scanUp,show decide (i9≤j)=true from T_ hij,Bool.true_and];rw [hlt,hod'];simp
      clear hI9 hlt;go_wp2_with fail;have hbW:Hid (Below wr.heap.size wr wr):=Below.refl _ _;go_upto_region 3 with fail;refine wb_ wr.heap.size ?_;intro C hC
      repeat(go_big_quiet_step (first
       |((intro _;with_reducible rfl))
       |(intro hc;have hcw:=b_ hbW hc;have m0:=(hS.out.below hcw).cell ham;have m1:=(hS.out.below hcw).cell hxm;simp only [m0,m1,Result.andThen];exact⟨trivial,rfl⟩)
       |(intro hc;have hcw:=b_ hbW hc;(with_reducible refine(hcmp.out hcw).mono ?_);rintro e w'' ⟨rfl,hw⟩;exact⟨rfl,u_ hc hw⟩)))
      refine wpQuiet_nil ?_;intro w9 hb9;clear hC;have hS9:=H_ (hS.out.below hb9);clear hb9 hbW hS;go_wp2_with fail
      go_meet
      exact⟨by rw [hE]<;>first|rfl|go_num,hS9⟩
     ·have hod':decide (o<0)=false:=F_ hod;have hN:Hid (Sort.scanUp (fun x=> !ltR L d[a]! x) d j (i9+1)=I):=by show _=_;rw [←hI9.out];symm;rw [Sort.scanUp,show decide (i9≤j)=true from T_ hij,Bool.true_and];rw [hlt,hod'];simp
      clear hI9 hlt;go_wp2_with fail;have hbW:Hid (Below wr.heap.size wr wr):=Below.refl _ _;go_upto_region 3 with fail;refine wb_ wr.heap.size ?_;intro C hC
      repeat(go_big_quiet_step (first
       |((intro _;with_reducible rfl))
       |(intro hc;have hcw:=b_ hbW hc;have m0:=(hS.out.below hcw).cell ham;have m1:=(hS.out.below hcw).cell hxm;simp only [m0,m1,Result.andThen];exact⟨trivial,rfl⟩)
       |(intro hc;have hcw:=b_ hbW hc;(with_reducible refine(hcmp.out hcw).mono ?_);rintro e w'' ⟨rfl,hw⟩;exact⟨rfl,u_ hc hw⟩)))
      refine wpQuiet_nil ?_;intro w9 hb9;clear hC;have hS9:=H_ (hS.out.below hb9);clear hb9 hbW hS;go_wp2_with fail;go_roundw
      case rel=>exact⟨i9+1,by omega,by omega,by go_num,hS9,hN⟩
      case measure=>simp [intOf]<;>omega
    ·have hE:I=i9:=by rw [←hI9.out];rw [Sort.scanUp,show decide (i9≤j)=false from F_ hij];simp
     have hijF:decide ((i9:Int)≤(j:Int))=false:=F_ (by omega);clear hI9;go_wp2_with fail;go_upto_region 3 with fail;refine wb_ wr.heap.size ?_;intro C hC
     repeat(go_big_quiet_step (first
      |((intro _;with_reducible rfl))
     ))
     refine wpQuiet_nil ?_;intro w9 hb9;clear hC;have hS9:=H_ (hS.out.below hb9);clear hb9 hS;go_wp2_with fail
     go_meet
     exact⟨by rw [hE],hS9⟩
  case' rest=>
   obtain⟨rfl,hS'⟩:=hcut;clear hS;have hS:=hS';clear hS'
  go_upto_block 4 with fail;go_cut [12] (fun v wx=>v= .int .i64 (J:Nat)∧Hid (SW w0 A n L wS g m c d wx))
  case first=>
   go_wp2_with fail;go_loopw [12] (fun jv wr=> ∃ j9:Nat,j9≤j∧jv= .int .i64 j9∧Hid (SW w0 A n L wS g m c d wr)∧Hid (Sort.scanDown (fun x=>ltR L d[a]! x) d I j9=J)) (fun jv _=>(intOf jv).toNat)
   case atStart=>exact⟨j,Nat.le_refl _,by first|rfl|go_num,hS,hJ⟩
   case round=>
    clear hS;obtain⟨j9,hj9,rfl,hS,hI9⟩:=hrel;by_cases hij:I≤j9
    ·obtain⟨j9,rfl⟩: ∃ k,j9=k+1:=⟨j9-1,by omega⟩
     have hijI:(I:Int)≤(j9:Int)+1:=by omega
     have hxm:j9+1<m:=by omega
     have hxmI:(j9:Int)+1<(m:Int):=by omega
     obtain⟨o,ho⟩: ∃ o,ordR L d[a]! d[j9+1]! =o:=⟨_,rfl⟩
     have hcmp:Hid (∀ {U:World},Below wr.heap.size wr U→Calls Tryz.prog 82 #[.slice A n cA,.int .i64 d[a]!,.int .i64 d[j9+1]!] U fun e w'=>e= .returned (.int .i64 o)∧Below U.heap.size U w'):=fun hU=>by rw [←ho];exact hS.out.cmp cA ham hxm hU
     have hlt:ltR L d[a]! d[j9+1]! =decide (o<0):=by rw [←ho];rfl
     clear ho;by_cases hod:o<0
     ·have hod':decide (o<0)=true:=T_ hod;have hN:Hid (Sort.scanDown (fun x=>ltR L d[a]! x) d I j9=J):=by show _=_;rw [←hI9.out];symm;rw [Sort.scanDown,show decide (I≤j9+1)=true from T_ hij,Bool.true_and];rw [hlt,hod'];simp
      clear hI9 hlt;go_wp2_with fail;have hbW:Hid (Below wr.heap.size wr wr):=Below.refl _ _;go_upto_region 5 with fail;refine wb_ wr.heap.size ?_;intro C hC
      repeat(go_big_quiet_step (first
       |((intro _;with_reducible rfl))
       |(intro hc;have hcw:=b_ hbW hc;have m0:=(hS.out.below hcw).cell ham;have m1:=(hS.out.below hcw).cell hxm;simp only [m0,m1,Result.andThen];exact⟨trivial,rfl⟩)
       |(intro hc;have hcw:=b_ hbW hc;(with_reducible refine(hcmp.out hcw).mono ?_);rintro e w'' ⟨rfl,hw⟩;exact⟨rfl,u_ hc hw⟩)))
      refine wpQuiet_nil ?_;intro w9 hb9;clear hC;have hS9:=H_ (hS.out.below hb9);clear hb9 hbW hS;go_wp2_with fail;go_roundw
      case rel=>exact⟨j9,by omega,by go_num,hS9,hN⟩
      case measure=>simp [intOf]<;>omega
     ·have hod':decide (o<0)=false:=F_ hod;have hE:J=j9+1:=by rw [←hI9.out];symm;rw [Sort.scanDown,show decide (I≤j9+1)=true from T_ hij,Bool.true_and];rw [hlt,hod'];simp
      clear hI9 hlt;go_wp2_with fail;have hbW:Hid (Below wr.heap.size wr wr):=Below.refl _ _;go_upto_region 5 with fail;refine wb_ wr.heap.size ?_;intro C hC
      repeat(go_big_quiet_step (first
       |((intro _;with_reducible rfl))
       |(intro hc;have hcw:=b_ hbW hc;have m0:=(hS.out.below hcw).cell ham;have m1:=(hS.out.below hcw).cell hxm;simp only [m0,m1,Result.andThen];exact⟨trivial,rfl⟩)
       |(intro hc;have hcw:=b_ hbW hc;(with_reducible refine(hcmp.out hcw).mono ?_);rintro e w'' ⟨rfl,hw⟩;exact⟨rfl,u_ hc hw⟩)))
      refine wpQuiet_nil ?_;intro w9 hb9;clear hC;have hS9:=H_ (hS.out.below hb9);clear hb9 hbW hS;go_wp2_with fail
      go_meet
      exact⟨by rw [hE]<;>first|rfl|go_num,hS9⟩
    ·have hE:J=j9:=by rw [←hI9.out];exact scanDown_stop hij
     have hijF:decide ((I:Int)≤(j9:Int))=false:=F_ (by omega);clear hI9;go_wp2_with fail;go_upto_region 5 with fail;refine wb_ wr.heap.size ?_;intro C hC
     repeat(go_big_quiet_step (first
      |((intro _;with_reducible rfl))
     ))
     refine wpQuiet_nil ?_;intro w9 hb9;clear hC;have hS9:=H_ (hS.out.below hb9);clear hb9 hS;go_wp2_with fail
     go_meet
     exact⟨by rw [hE],hS9⟩
  case' rest=>
   obtain⟨rfl,hS'⟩:=hcut;clear hS;have hS:=hS';clear hS'
  by_cases hIJ:J<I
  ·have hIJI:(J:Int)<(I:Int):=by omega
   have hE:Hid ((I,d)=R):=by show _=_;rw [←hP.out,hPe.out,if_pos hIJ]
   clear hP hPe;go_wp2_with fail;go_returns;rw [←hE.out];exact⟨rfl,hS.out⟩
  ·have hIJI: ¬ (J:Int)<(I:Int):=by omega
   obtain⟨J,rfl⟩: ∃ k,J=k+1:=⟨J-1,by omega⟩
   have hIm:I<m:=by omega
   have hJm:J+1<m:=by omega
   have hImI:(I:Int)<(m:Int):=by omega
   have hJmI:(J:Int)+1<(m:Int):=by omega
   have hPn:Hid (Sort.partEqLoop (ltR L) a (I+1) J (Sort.swp d I (J+1))=R):=by show _=_;rw [←hP.out,hPe.out,if_neg hIJ,Nat.add_sub_cancel]
   clear hP hPe;go_wp2_with fail;go_upto_region 8 with fail;refine wp_region_late [0,0,1,1,0,0,0,0,0,0,0,0,0,2,2,2] (by kernel_rfl) (by kernel_rfl) ?_;intro C hC;simp only [pickK,Nat.reduceEqDiff, ↓reduceIte]
   repeat(go_big_quiet_step (first
    |(intro _;with_reducible rfl)
    |(intro hc;have m0:=(hS.out.below hc).cell hIm;have m1:=(hS.out.below hc).cell hJm;simp only [m0,m1,Result.andThen];exact⟨trivial,rfl⟩)))
   refine wpQuiet_nil ?_;clear hC;intro C' hC'
   repeat(go_big_quiet_step (first|(intro _;with_reducible rfl)))
   refine wpQuiet_nil ?_;clear hC';intro wq hbq;obtain⟨W1,W2,sc1,sf1,sk1,⟨y9,sc2⟩,sf2,sk2,hS2⟩:=(hS.out.below hbq).swap hIm hJm;replace hS2:=H_ hS2;clear hbq;go_wp2_with fail;go_roundw
   case rel=>exact⟨I+1,J,_,by omega,by omega,by omega,by omega,by go_num,by first|rfl|go_num,hS2,hPn⟩
   case measure=>simp [intOf]<;>omega
theorem partEqLoop_range {lt:Int→Int→Bool} {a b:Nat}: ∀ (n i j:Nat) (d:Array Int),j+1-i≤n→1≤i→i≤b→j<b→i≤(Sort.partEqLoop lt a i j d).1∧(Sort.partEqLoop lt a i j d).1≤b:=by
 intro n
 induction n with
 |zero=>
  intro i j d h h1 hi hj;rw [partEqLoop_eq h1 rfl rfl];have g1:=(scanUp_ge (p:=fun x=> !lt d[a]! x) (d:=d) (j:=j) (n:=j+1-i) (i:=i) rfl)
  have g2:=(scanDown_le (p:=fun x=>lt d[a]! x) (d:=d) (i:=Sort.scanUp (fun x=> !lt d[a]! x) d j i) (j:=j)).1;rw [if_pos (by omega)];exact⟨g1.1,by show Sort.scanUp _ _ _ _≤b;omega⟩
 |succ n ih=>
  intro i j d h h1 hi hj;obtain⟨I,hI⟩: ∃ q,Sort.scanUp (fun x=> !lt d[a]! x) d j i=q:=⟨_,rfl⟩
  obtain⟨J,hJ⟩: ∃ q,Sort.scanDown (fun x=>lt d[a]! x) d I j=q:=⟨_,rfl⟩
  have g1:=(scanUp_ge (p:=fun x=> !lt d[a]! x) (d:=d) (j:=j) (n:=j+1-i) (i:=i) rfl)
  have g2:=(scanDown_le (p:=fun x=>lt d[a]! x) (d:=d) (i:=I) (j:=j)).1;rw [hI] at g1;rw [hJ] at g2;rw [partEqLoop_eq h1 hI hJ];split
  ·exact⟨g1.1,by show I≤b;omega⟩
  ·rename_i hn;have:=ih (I+1) (J-1) (Sort.swp d I J) (by omega) (by omega) (by omega) (by omega);exact⟨by have:=this.1;have:=g1.1;omega,this.2⟩
theorem partitionEqual_range {lt:Int→Int→Bool} {d:Array Int} {a b pivot:Nat} (h:a<b):a<(Sort.partitionEqual lt d a b pivot).1∧(Sort.partitionEqual lt d a b pivot).1≤b:=by
 have:=partEqLoop_range (lt:=lt) (a:=a) (b:=b) _ (a+1) (b-1) (Sort.swp d a pivot) (Nat.le_refl _) (by omega) (by omega) (by omega);exact this
def pdqRest (lt:Int→Int→Bool) (d3:Array Int) (a b lim:Nat) (wb wp:Bool) (pv:Nat):Array Int:=
 if a>0&& !lt d3[a-1]! d3[pv]! then
  Sort.pdq lt (Sort.partitionEqual lt d3 a b pv).2 (Sort.partitionEqual lt d3 a b pv).1 b lim wb wp
 else if(Sort.partition lt d3 a b pv).1-a<b-(Sort.partition lt d3 a b pv).1 then
  Sort.pdq lt (Sort.pdq lt (Sort.partition lt d3 a b pv).2.2 a (Sort.partition lt d3 a b pv).1 lim true true) ((Sort.partition lt d3 a b pv).1+1) b lim (decide ((Sort.partition lt d3 a b pv).1-a≥(b-a) / 8)) (Sort.partition lt d3 a b pv).2.1
 else Sort.pdq lt (Sort.pdq lt (Sort.partition lt d3 a b pv).2.2 ((Sort.partition lt d3 a b pv).1+1) b lim true true) a (Sort.partition lt d3 a b pv).1 lim (decide (b-(Sort.partition lt d3 a b pv).1≥(b-a) / 8)) (Sort.partition lt d3 a b pv).2.1
theorem pdq_small {lt:Int→Int→Bool} {d:Array Int} {a b limit:Nat} {wb wp:Bool} (h:b-a≤12):Sort.pdq lt d a b limit wb wp=Sort.insertionSort lt d a b:=by rw [Sort.pdq,if_pos h]
theorem pdq_heap {lt:Int→Int→Bool} {d:Array Int} {a b limit:Nat} {wb wp:Bool} (h: ¬ b-a≤12) (h0:limit=0):Sort.pdq lt d a b limit wb wp=Sort.heapSort lt d a b:=by rw [Sort.pdq,if_neg h,if_pos h0]
theorem pdq_eq {lt:Int→Int→Bool} {d d1 d2 d3:Array Int} {a b limit lim p0 pv:Nat} {wb wp pi:Bool} {h0 hint:Sort.Hint} (hsw:Sort.SWO lt) (hsz:b≤d3.size) (h1: ¬ b-a≤12) (h2:limit≠0)
 (hd1:(if !wb then Sort.breakPatterns d a b else d)=d1) (hlim:(if !wb then limit-1 else limit)=lim) (hc:Sort.choosePivot lt d1 a b=(p0,h0))
 (hd2:(if h0= .decreasing then Sort.reverseRange d1 a b else d1)=d2) (hpv:(if h0= .decreasing then(b-1)-(p0-a) else p0)=pv) (hh:(if h0= .decreasing then Sort.Hint.increasing else h0)=hint)
 (hpi:(if wb&&wp&&decide (hint= .increasing) then Sort.partialInsertionSort lt d2 a b else(d2,false))=(d3,pi)) (hv:a≤pv∧pv<b):
 Sort.pdq lt d a b limit wb wp=if pi then d3 else pdqRest lt d3 a b lim wb wp pv:=by
 rw [Sort.pdq,if_neg h1,if_neg h2]
 dsimp only
 rw [hd1,hlim,hc]
 dsimp only
 rw [hd2,hpv,hh,hpi]
 dsimp only
 unfold pdqRest;split
 ·rfl
 ·split
  ·rw [dif_pos (partitionEqual_range (by omega))]
  ·have hp:=Sort.partition_holds lt hsw d3 a b pv hv.1 hv.2 hsz;rw [dif_pos ⟨hp.1,hp.2.1⟩]
