/- Merged. -/
import Derived.Test.YtechdefolfboeaaGreatDoorPo36
set_option linter.unusedVariables false
set_option linter.unusedSimpArgs false
set_option maxRecDepth 100000
set_option maxHeartbeats 2000000
namespace Go.Proofs.YtechdefolfboeaaGreatDoor
open Go.RowKit B K
theorem sift_stop {lt:Int→Int→Bool} {hi first root:Nat} {d:Array Int} (h:hi≤2*root+1):Sort.siftDown lt hi first root d=d:=by rw [Sort.siftDown,dif_pos h]
theorem sift_go {lt:Int→Int→Bool} {hi first root ch c2:Nat} {d:Array Int} (hc:2*root+1=ch) (h:ch<hi) (h2:c2=if decide (ch+1<hi)&&lt d[first+ch]! d[first+ch+1]! then ch+1 else ch):
 Sort.siftDown lt hi first root d=if !lt d[first+root]! d[first+c2]! then d else Sort.siftDown lt hi first c2 (Sort.swp d (first+root) (first+c2)):=by
 subst hc;rw [Sort.siftDown,dif_neg (by omega)];split at h2
 ·rename_i h3;subst h2;rw [if_pos h3];have h4:2*root+1+1<hi:=by simp only [Bool.and_eq_true,decide_eq_true_eq] at h3;exact h3.1
  split
  ·rfl
  ·rfl
 ·rename_i h3;subst h2;rw [if_neg h3]
theorem sd_any {w0 wS w:World} {A:Option Addr} {n g m c:Nat} {L:List RunP} {d:Array Int} (cA:Nat) (hS:SW w0 A n L wS g m c d w) (hm:m≤100000) (lo hi first:Nat) (hh:first+hi≤m) (hlo:lo≤m):
 Calls Tryz.prog 222 #[.slice (some ⟨g,0,none⟩) m c,.int .i64 (lo:Int),.int .i64 (hi:Int),.int .i64 (first:Int),.func (.func 82) #[.slice A n cA] #[]] w fun e w'=>e= .returned (.tuple #[])∧SW w0 A n L wS g m c (Sort.siftDown (ltR L) hi first lo d) w':=by
 have hS0:=H_ hS;obtain⟨R,hR⟩: ∃ R,Sort.siftDown (ltR L) hi first lo d=R:=⟨_,rfl⟩
 rw [hR];have hR0:Hid (Sort.siftDown (ltR L) hi first lo d=R):=hR;clear hS hR;go_enter Tryz.func222,Tryz.ntmps222;go_wp2_with fail;go_loopw [10] (fun iv wr=> ∃ (root:Nat) (d:Array Int),root≤m∧iv= .int .i64 root∧Hid (SW w0 A n L wS g m c d wr)∧Hid (Sort.siftDown (ltR L) hi first root d=R)) (fun iv _=>m+1-(intOf iv).toNat)
 case atStart=>exact⟨lo,d,hlo,rfl,hS0,hR0⟩
 case round=>
  clear hS0 hR0;obtain⟨root,d,hrm,rfl,hS,hR⟩:=hrel;obtain⟨ch,hch⟩: ∃ c,2*root+1=c:=⟨_,rfl⟩
  have hchI:2*(root:Int)+1=(ch:Int):=by omega
  have hchb:ch≤300000:=by omega
  by_cases hge:hi≤ch
  ·have hgeI:(hi:Int)≤(ch:Int):=by omega
   have hRn:Hid (d=R):=by show _=_;rw [←hR.out];exact(sift_stop (by omega)).symm
   clear hch;go_wp2_with fail;go_returns;exact⟨rfl,by rw [←hRn.out];exact hS.out⟩
  ·have hgeI: ¬ (hi:Int)≤(ch:Int):=by omega
   have hchH:=H_ hch;obtain⟨p0,hp0⟩: ∃ p,first+root=p:=⟨_,rfl⟩
   obtain⟨p1,hp1⟩: ∃ p,first+ch=p:=⟨_,rfl⟩
   have hp0m:p0<m:=by omega
   have hp1m:p1<m:=by omega
   have hs2:IntKind.i64.wrap ((first:Int)+(ch:Int))=(p1:Int):=by rw [IntWalk.i64_in _ (by omega)];omega
   have hs4:IntKind.i64.wrap ((first:Int)+(root:Int))=(p0:Int):=by rw [IntWalk.i64_in _ (by omega)];omega
   have hs1:IntKind.i64.wrap ((ch:Int)+1)=(ch:Int)+1:=IntWalk.i64_in _ (by omega);have hs3:IntKind.i64.wrap ((p1:Int)+1)=(p1:Int)+1:=IntWalk.i64_in _ (by omega);have hp1I:(p1:Int)<(m:Int):=by omega
   have hp0I:(p0:Int)<(m:Int):=by omega
   have hp0H:=H_ hp0;have hp1H:=H_ hp1;clear hch hp0 hp1;refine(Decidable.em (ch+1<hi)).elim (fun h1=>?xA) (fun h1=>?xB)
   case' xA=>
    have h1I:(ch:Int)+1<(hi:Int):=by omega
    have hp2m:p1+1<m:=by have:=hp1H.out;omega
    have hp2I:(p1:Int)+1<(m:Int):=by omega
    obtain⟨oA,hoA⟩: ∃ o,ordR L d[p1]! d[p1+1]! =o:=⟨_,rfl⟩
    have hcmpA:Hid (∀ {U:World},Below wr.heap.size wr U→Calls Tryz.prog 82 #[.slice A n cA,.int .i64 d[p1]!,.int .i64 d[p1+1]!] U fun e w'=>e= .returned (.int .i64 oA)∧Below U.heap.size U w'):=fun hU=>by rw [←hoA];exact hS.out.cmp cA hp1m hp2m hU
    have hltA:ltR L d[p1]! d[p1+1]! =decide (oA<0):=by rw [←hoA];rfl
    clear hoA;have e2:(decide (ch+1<hi)&&ltR L d[first+ch]! d[first+ch+1]!)=decide (oA<0):=by rw [T_ h1,hp1H.out,hltA];simp
    clear hltA;refine(Decidable.em (oA<0)).elim (fun hod=>?yA) (fun hod=>?yB)
    case' yA=>
     have hod':decide (oA<0)=true:=T_ hod;obtain⟨c2,hc2⟩: ∃ c,ch+1=c:=⟨_,rfl⟩
     have hRn:Hid ((if !ltR L d[first+root]! d[first+c2]! then d else Sort.siftDown (ltR L) hi first c2 (Sort.swp d (first+root) (first+c2)))=R):=by show _=_;rw [←hR.out];exact(sift_go hchH.out (by omega) (by rw [e2,hod',if_pos rfl,hc2])).symm
     have hc2H:Hid ((ch:Int)+1=(c2:Int)):=by show _=_;omega
     have hc2m:first+c2<m∧root<c2∧c2≤m:=by have:=hchH.out;omega
     clear e2 hR hc2;go_wp2_with fail;have hbW:Hid (Below wr.heap.size wr wr):=Below.refl _ _;go_upto_region 3 with fail;refine wb_ wr.heap.size ?_;intro C hC
     repeat(go_big_quiet_step (first
      |((intro _;with_reducible rfl))
      |(intro hc;have hcw:=b_ hbW hc;have m0:=(hS.out.below hcw).cell hp1m;have m1:=(hS.out.below hcw).cell hp2m;simp only [m0,m1,Result.andThen];exact⟨trivial,rfl⟩)
      |(intro hc;have hcw:=b_ hbW hc;(with_reducible refine(hcmpA.out hcw).mono ?_);rintro e w'' ⟨rfl,hw⟩;exact⟨rfl,u_ hc hw⟩)))
     refine wpQuiet_nil ?_;intro w9 hb9;clear hC;clear hbW;have hc2I:=hc2H.out
    case' yB=>
     have hod':decide (oA<0)=false:=F_ hod;obtain⟨c2,hc2⟩: ∃ c,c=ch:=⟨_,rfl⟩
     have hRn:Hid ((if !ltR L d[first+root]! d[first+c2]! then d else Sort.siftDown (ltR L) hi first c2 (Sort.swp d (first+root) (first+c2)))=R):=by show _=_;rw [←hR.out];exact(sift_go hchH.out (by omega) (by rw [e2,hod',if_neg (by simp)];exact hc2)).symm
     have hc2m:first+c2<m∧root<c2∧c2≤m:=by have:=hchH.out;omega
     subst hc2;clear e2 hR;go_wp2_with fail;have hbW:Hid (Below wr.heap.size wr wr):=Below.refl _ _;go_upto_region 3 with fail;refine wb_ wr.heap.size ?_;intro C hC
     repeat(go_big_quiet_step (first
      |((intro _;with_reducible rfl))
      |(intro hc;have hcw:=b_ hbW hc;have m0:=(hS.out.below hcw).cell hp1m;have m1:=(hS.out.below hcw).cell hp2m;simp only [m0,m1,Result.andThen];exact⟨trivial,rfl⟩)
      |(intro hc;have hcw:=b_ hbW hc;(with_reducible refine(hcmpA.out hcw).mono ?_);rintro e w'' ⟨rfl,hw⟩;exact⟨rfl,u_ hc hw⟩)))
     refine wpQuiet_nil ?_;intro w9 hb9;clear hC;clear hbW
   case' xB=>
    have h1I: ¬ (ch:Int)+1<(hi:Int):=by omega
    have h1F:decide ((ch:Int)+1<(hi:Int))=false:=F_ h1I;obtain⟨c2,hc2⟩: ∃ c,c=ch:=⟨_,rfl⟩
    have hRn:Hid ((if !ltR L d[first+root]! d[first+c2]! then d else Sort.siftDown (ltR L) hi first c2 (Sort.swp d (first+root) (first+c2)))=R):=by show _=_;rw [←hR.out];exact(sift_go hchH.out (by omega) (by rw [F_ h1];simpa using hc2)).symm
    have hc2m:first+c2<m∧root<c2∧c2≤m:=by have:=hchH.out;omega
    subst hc2;clear hR;go_wp2_with fail;go_upto_region 3 with fail;refine wb_ wr.heap.size ?_;intro C hC
    repeat(go_big_quiet_step (first
     |((intro _;with_reducible rfl))
    ))
    refine wpQuiet_nil ?_;intro w9 hb9;clear hC
   all_goals
    have hS9:=H_ (hS.out.below hb9);clear hb9 hS;obtain⟨p2,hp2⟩: ∃ p,first+c2=p:=⟨_,rfl⟩
    rw [hp2,hp0H.out] at hRn;rw [hp2] at hc2m;obtain⟨hp2m',hrc,hcm⟩:=hc2m;have hs5:IntKind.i64.wrap ((first:Int)+(c2:Int))=(p2:Int):=by rw [IntWalk.i64_in _ (by omega)];omega
    have hp2I':(p2:Int)<(m:Int):=by omega
    clear hp2 hs3;obtain⟨oB,hoB⟩: ∃ o,ordR L d[p0]! d[p2]! =o:=⟨_,rfl⟩
    have hcmpB:Hid (∀ {U:World},Below w9.heap.size w9 U→Calls Tryz.prog 82 #[.slice A n cA,.int .i64 d[p0]!,.int .i64 d[p2]!] U fun e w'=>e= .returned (.int .i64 oB)∧Below U.heap.size U w'):=fun hU=>by rw [←hoB];exact hS9.out.cmp cA hp0m hp2m' hU
    have hltB:ltR L d[p0]! d[p2]! =decide (oB<0):=by rw [←hoB];rfl
    clear hoB;rw [hltB] at hRn;clear hltB;by_cases hodB:oB<0
    ·have hodB':decide (oB<0)=true:=T_ hodB;rw [hodB',if_neg (by simp)] at hRn;clear hs2;go_wp2_with fail;have hbW:Hid (Below w9.heap.size w9 w9):=Below.refl _ _;go_upto_region 5 with fail;refine wb_ w9.heap.size ?_;intro C hC
     repeat(go_big_quiet_step (first
      |((intro _;with_reducible rfl))
      |(intro hc;have hcw:=b_ hbW hc;have m0:=(hS9.out.below hcw).cell hp0m;have m1:=(hS9.out.below hcw).cell hp2m';simp only [m0,m1,Result.andThen];exact⟨trivial,rfl⟩)
      |(intro hc;have hcw:=b_ hbW hc;(with_reducible refine(hcmpB.out hcw).mono ?_);rintro e w'' ⟨rfl,hw⟩;exact⟨rfl,u_ hc hw⟩)))
     refine wpQuiet_nil ?_;intro wa hba;clear hC;have hSa:=H_ (hS9.out.below hba);clear hba hbW hS9;go_wp2_with fail;go_upto_region 6 with fail;refine wp_region_late [0,0,0,0,1,1,1,1,0,0,0,0,0,0,0,0,0,0,0,0,0,2,2,2] (by kernel_rfl) (by kernel_rfl) ?_;intro C hC;simp only [pickK,Nat.reduceEqDiff, ↓reduceIte]
     repeat(go_big_quiet_step (first
      |(intro _;with_reducible rfl)
      |(intro hc;have m0:=(hSa.out.below hc).cell hp0m;have m1:=(hSa.out.below hc).cell hp2m';simp only [m0,m1,Result.andThen];exact⟨trivial,rfl⟩)))
     refine wpQuiet_nil ?_;clear hC;intro C' hC'
     repeat(go_big_quiet_step (first|(intro _;with_reducible rfl)))
     refine wpQuiet_nil ?_;clear hC';intro wq hbq;obtain⟨W1,W2,sc1,sf1,sk1,⟨y9,sc2⟩,sf2,sk2,hS2⟩:=(hSa.out.below hbq).swap hp0m hp2m';replace hS2:=H_ hS2;clear hbq;go_wp2_with fail;go_roundw
     case rel=>exact⟨c2,_,hcm,rfl,hS2,hRn⟩
     case measure=>simp [intOf]<;>omega
    ·have hodB':decide (oB<0)=false:=F_ hodB;rw [hodB',if_pos (by simp)] at hRn;clear hs2;go_wp2_with fail;have hbW:Hid (Below w9.heap.size w9 w9):=Below.refl _ _;go_upto_region 5 with fail;refine wb_ w9.heap.size ?_;intro C hC
     repeat(go_big_quiet_step (first
      |((intro _;with_reducible rfl))
      |(intro hc;have hcw:=b_ hbW hc;have m0:=(hS9.out.below hcw).cell hp0m;have m1:=(hS9.out.below hcw).cell hp2m';simp only [m0,m1,Result.andThen];exact⟨trivial,rfl⟩)
      |(intro hc;have hcw:=b_ hbW hc;(with_reducible refine(hcmpB.out hcw).mono ?_);rintro e w'' ⟨rfl,hw⟩;exact⟨rfl,u_ hc hw⟩)))
     refine wpQuiet_nil ?_;intro wa hba;clear hC;have hSa:=H_ (hS9.out.below hba);clear hba hbW hS9;go_wp2_with fail;go_returns;exact⟨rfl,by rw [←hRn.out];exact hSa.out⟩
theorem hp_any {w0 wS w:World} {A:Option Addr} {n g m c:Nat} {L:List RunP} {d:Array Int} (cA:Nat) (hS:SW w0 A n L wS g m c d w) (hm:m≤100000) (a b:Nat) (hab:a+12<b) (hb:b≤m):
 Calls Tryz.prog 148 #[.slice (some ⟨g,0,none⟩) m c,.int .i64 (a:Int),.int .i64 (b:Int),.func (.func 82) #[.slice A n cA] #[]] w fun e w'=>e= .returned (.tuple #[])∧SW w0 A n L wS g m c (Sort.heapSort (ltR L) d a b) w':=by
 have hS0:=H_ hS;obtain⟨R,hR⟩: ∃ R,Sort.heapSort (ltR L) d a b=R:=⟨_,rfl⟩
 rw [hR];obtain⟨l,hl⟩: ∃ l,b-a=l:=⟨_,rfl⟩
 obtain⟨h,hh⟩: ∃ h,(l-1) / 2=h:=⟨_,rfl⟩
 unfold Sort.heapSort at hR;rw [hl,hh] at hR;obtain⟨B,hB⟩: ∃ B,Sort.heapBuild (ltR L) l a (h+1) d=B:=⟨_,rfl⟩
 rw [hB] at hR;have hB0:Hid (Sort.heapBuild (ltR L) l a (h+1) d=B):=hB;have hRH:Hid (Sort.heapPop (ltR L) a l B=R):=hR;have x1:(b:Int)-(a:Int)=(l:Int):=by omega
 have x2:((l:Int)-1) / 2=(h:Int):=by omega
 have bb:b≤100000:=by omega
 have ba:a≤100000:=by omega
 have bl:l≤100000:=by omega
 have bl1:13≤l:=by omega
 have hal:a+l≤m:=by omega
 have hhl:h<l:=by omega
 have hst:Value.int .i64 (h:Int)= .int .i64 (((h+1:Nat):Int)-1):=by congr 1;omega
 have hstH:=H_ hst;clear hS hR hB hh hl hst;go_enter Tryz.func148,Tryz.ntmps148;go_wp2_with fail;go_loopw [11] (fun iv wr=> ∃ (k:Nat) (d:Array Int),k≤h+1∧iv= .int .i64 ((k:Int)-1)∧Hid (SW w0 A n L wS g m c d wr)∧Hid (Sort.heapBuild (ltR L) l a k d=B)) (fun iv _=>(intOf iv+1).toNat)
 case atStart=>exact⟨h+1,d,Nat.le_refl _,by rw [x2];exact hstH.out,hS0,hB0⟩
 case round=>
  clear hS0 hB0;obtain⟨k,d,hk,hu,hS,hB⟩:=hrel
  cases k with
  |succ k=>
   obtain rfl:u11= .int .i64 (k:Int):=by rw [hu];congr 1;omega
   clear hu x2;have hBn:Hid (Sort.heapBuild (ltR L) l a k (Sort.siftDown (ltR L) l a k d)=B):=hB.out;have hsd:=H_ (sd_any cA hS.out hm k l a hal (by omega));obtain⟨d2,hd2⟩: ∃ q,Sort.siftDown (ltR L) l a k d=q:=⟨_,rfl⟩
   rw [hd2] at hsd hBn;clear hd2 hB hS;go_wp2_with fail;refine hsd.out.mono ?_;rintro e w2 ⟨rfl,hS2⟩;have hS2:=H_ hS2;rename_i z1;clear z1 hsd;go_wp2_with fail;go_roundw
   case rel=>exact⟨k,d2,by omega,rfl,hS2,hBn⟩
   case measure=>simp [intOf]<;>omega
  |zero=>
   obtain rfl:u11= .int .i64 (-1):=hu;have hdB:Hid (d=B):=hB.out;have hRn:Hid (Sort.heapPop (ltR L) a l d=R):=by show _=_;rw [hdB.out];exact hRH.out
   have hst:Hid (Value.int .i64 ((l:Int)-1)= .int .i64 (((l:Nat):Int)-1)):=rfl;obtain⟨wo,rfl⟩: ∃ wo:World,wo=wr:=⟨_,rfl⟩
   clear hB hdB hRH x2;go_wp2_with fail;go_loopw [12] (fun iv wr=> ∃ (k:Nat) (d:Array Int),k≤l∧iv= .int .i64 ((k:Int)-1)∧Hid (SW w0 A n L wS g m c d wr)∧Hid (Sort.heapPop (ltR L) a k d=R)) (fun iv _=>(intOf iv+1).toNat)
   case atStart=>exact⟨l,d,Nat.le_refl _,rfl,hS,hRn⟩
   case round=>
    clear hS hRn hst;obtain⟨k,d,hk,hu,hS,hB⟩:=hrel
    cases k with
    |succ k=>
     obtain rfl:u12= .int .i64 (k:Int):=by rw [hu];congr 1;omega
     clear hu;obtain⟨p,hp⟩: ∃ p,a+k=p:=⟨_,rfl⟩
     have ham:a<m:=by omega
     have hpm:p<m:=by omega
     have hamI:(a:Int)<(m:Int):=by omega
     have hpmI:(p:Int)<(m:Int):=by omega
     have hs1:IntKind.i64.wrap ((a:Int)+(k:Int))=(p:Int):=by rw [IntWalk.i64_in _ (by omega)];omega
     have hBn:Hid (Sort.heapPop (ltR L) a k (Sort.siftDown (ltR L) k a 0 (Sort.swp d a p))=R):=by show _=_;rw [←hp];exact hB.out
     have hkm:a+k≤m:=by omega
     clear hB hp;go_wp2_with fail;go_upto_region 10 with fail;refine wp_region_late [0,0,1,1,1,1,0,0,0,0,0,0,0,0,0,0,0,2,2,2] (by kernel_rfl) (by kernel_rfl) ?_;intro C hC;simp only [pickK,Nat.reduceEqDiff, ↓reduceIte]
     repeat(go_big_quiet_step (first
      |(intro _;with_reducible rfl)
      |(intro hc;have m0:=(hS.out.below hc).cell ham;have m1:=(hS.out.below hc).cell hpm;simp only [m0,m1,Result.andThen];exact⟨trivial,rfl⟩)))
     refine wpQuiet_nil ?_;clear hC;intro C' hC'
     repeat(go_big_quiet_step (first|(intro _;with_reducible rfl)))
     refine wpQuiet_nil ?_;clear hC';intro wq hbq;obtain⟨W1,W2,sc1,sf1,sk1,⟨y9,sc2⟩,sf2,sk2,hS2⟩:=(hS.out.below hbq).swap ham hpm;replace hS2:=H_ hS2;clear hbq;have hsd:=H_ (sd_any cA hS2.out hm 0 k a hkm (by omega));obtain⟨d2,hd2⟩: ∃ q,Sort.siftDown (ltR L) k a 0 (Sort.swp d a p)=q:=⟨_,rfl⟩
     rw [hd2] at hsd hBn;clear hd2 hS hS2;go_wp2_with fail;refine hsd.out.mono ?_;rintro e w2 ⟨rfl,hS3⟩;have hS3H:=H_ hS3;clear hS3 hsd;go_wp2_with fail;go_roundw
     case rel=>exact⟨k,d2,by omega,rfl,hS3H,hBn⟩
     case measure=>simp [intOf]<;>omega
    |zero=>
     obtain rfl:u12= .int .i64 (-1):=hu;have hdB:Hid (d=R):=hB.out;clear hB;go_wp2_with fail;go_returns;exact⟨rfl,by rw [←hdB.out];exact hS.out⟩
