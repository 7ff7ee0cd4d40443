/- Merged. -/
import Derived.Test.YtechdefolfboeaaGreatDoorPd49
set_option linter.unusedVariables false
set_option linter.unusedSimpArgs false
set_option maxRecDepth 100000
set_option maxHeartbeats 2000000
namespace Go.Proofs.YtechdefolfboeaaGreatDoor
open Go.RowKit B K
theorem ej_ {p:Int ->Bool} {d:Array Int} {i j:Nat} (h: ¬ i<=j):Sort.scanDown p d i j=j:=by
 cases j with
 |zero=>rfl
 |succ j=>rw [Sort.scanDown,show decide (i<=j+1)=false from F_ h];simp
theorem c9_ {p:Int ->Bool} {d:Array Int} {j:Nat}: ∀ {n i:Nat},n=j+1-i ->i<=Sort.scanUp p d j i/\(Sort.scanUp p d j i<=j+1∨Sort.scanUp p d j i=i):=by
 intro n
 induction n with
 |zero=>intro i h;rw [Sort.scanUp,show decide (i<=j)=false from F_ (by omega)];simp
 |succ n ih=>
  intro i h;rw [Sort.scanUp];split
  ·have:=ih (i:=i+1) (by omega);constructor
   ·omega
   ·rcases this.2 with f|f<;>omega
  ·exact⟨Nat.le_refl _,.inr rfl⟩
theorem cB_ {p:Int ->Bool} {d:Array Int} {i j:Nat}:Sort.scanDown p d i j<=j/\(i<=j+1 ->i<=Sort.scanDown p d i j+1):=by
 induction j with
 |zero=>exact⟨Nat.le_refl _,fun h=>h⟩
 |succ j ih=>
  rw [Sort.scanDown];split
  ·rename_i h;simp only [Bool.and_eq_true,decide_eq_true_eq] at h;exact⟨by omega,fun _=>ih.2 h.1⟩
  ·exact⟨Nat.le_refl _,fun h=>h⟩
theorem jT_ {lt:Int ->Int ->Bool} {a i j I J:Nat} {d:Array Int} (h1:1<=i) (hI:Sort.scanUp (fun x=>lt x d[a]!) d j i=I) (hJ:Sort.scanDown (fun x=> !lt x d[a]!) d I j=J):
 Sort.partLoop lt a i j d=if J<I then(J,d) else Sort.partLoop lt a (I+1) (J-1) (Sort.swp d I J):=by
 have f:=(c9_ (p:=fun x=>lt x d[a]!) (d:=d) (j:=j) (n:=j+1-i) (i:=i) rfl).1;have g:=(cB_ (p:=fun x=> !lt x d[a]!) (d:=d) (i:=I) (j:=j)).1;rw [hI] at f;rw [hJ] at g;rw [Sort.partLoop];simp only [hI,hJ];by_cases h:J<I
 ·rw [if_pos h,if_pos h]
 ·rw [if_neg h,if_neg h,dif_pos (by omega)]
def pK_ (P:Array Int ->World ->Prop) (r:Nat×Bool×Array Int) (e:Ending) (w':World):Prop:=e= .returned (.tuple #[.int .i64 (r.1:Int),.bool r.2.1])/\P r.2.2 w'
theorem pB_ {w0 wS w:World} {A:Option Addr} {n g m c:Nat} {L:List RunP} {d:Array Int} (cA:Nat) (hS:SW w0 A n L wS g m c d w) (hm:m<=100000) (a b pivot:Nat) (ha:a<=pivot) (hp:pivot<b) (hb:b<=m) (hab:a+1<b):
 Calls Tryz.prog 154 #[.slice (some ⟨g,0,none⟩) m c,.int .i64 (a:Int),.int .i64 (b:Int),.int .i64 (pivot:Int),.func (.func 82) #[.slice A n cA] #[]] w (pK_ (SW w0 A n L wS g m c) (Sort.partition (ltR L) d a b pivot)):=by
 have aQ:=H_ hS;obtain⟨R,hR⟩:=e_ (Sort.partition (ltR L) d a b pivot);rw [hR];unfold Sort.partition at hR
 dsimp only at hR
 obtain⟨b,rfl⟩: ∃ k,b=k+1:=⟨b-1,by omega⟩
 rw [Nat.add_sub_cancel] at hR;have S:a<m:=by omega
 have bD:pivot<m:=by omega
 have bI:(a:Int)<(m:Int):=by omega
 have bJ:(pivot:Int)<(m:Int):=by omega
 have bF:b<m:=by omega
 have aA:=H_ hR;have bA:((b+1:Nat):Int)=(b:Int)+1:=by omega
 rw [bA];clear hS hR bA;go_enter Tryz.func154,Tryz.ntmps154
 go_wp2
 refine wl_ [0,0,1,1,0,0,0,0,0,0,0,0,0,2,2,2] ?_;intro C X;simp only [af_,Nat.reduceEqDiff, ↓reduceIte]
 repeat(go_big_quiet_step (first
  |(intro _;with_reducible rfl)
  |(intro D;simp only [(aQ.o.below D).cell S,(aQ.o.below D).cell bD,Result.andThen];exact⟨trivial,rfl⟩)))
 clear X;intro C' aD
 repeat(go_big_quiet_step (first|(intro _;with_reducible rfl)))
 clear aD;intro wq r;obtain⟨W1,W2,aR,aT,aV,⟨y9,aS⟩,aU,aW,F⟩:=(aQ.o.below r).swap S bD;replace F:=H_ F;clear r;obtain⟨d,hd⟩:=e_ (Sort.swp d a pivot);rw [hd] at aA F;clear hd aQ;obtain⟨I,hI⟩:=e_ (Sort.scanUp (fun x=>ltR L x d[a]!) d b (a+1));rw [hI] at aA;obtain⟨J,hJ⟩:=e_ (Sort.scanDown (fun x=> !ltR L x d[a]!) d I b);rw [hJ] at aA;have aE:=c9_ (p:=fun x=>ltR L x d[a]!) (d:=d) (j:=b) (n:=b+1-(a+1)) (i:=a+1) rfl;rw [hI] at aE;have aF:=cB_ (p:=fun x=> !ltR L x d[a]!) (d:=d) (i:=I) (j:=b);rw [hJ] at aF;replace hI:=H_ hI;replace hJ:=H_ hJ;have hS:=F;clear F;have b1:a+1<=I:=aE.1;have b2:I<=b+1:=by have:=aE.2;omega
 have b3:J<=b:=aF.1;have b4:I<=J+1:=aF.2 (by omega);clear aE aF;go_upto_block 0 with fail;go_cut [12] (fun v wx=>v= .int .i64 (I:Nat)/\Hd (SW w0 A n L wS g m c d wx))
 ·go_wp2
  go_loopw [12] (fun iv wr=> ∃ P:Nat,(a+1)<=P/\P<=m/\iv= .int .i64 P/\Hd (SW w0 A n L wS g m c d wr)/\Hd (Sort.scanUp (fun x=>ltR L x d[a]!) d b P=I)) (fun iv _=>m+1-(intOf iv).toNat)
  ·exact⟨(a+1),Nat.le_refl _,by omega,by first|rfl|go_num,hS,hI⟩
  ·clear hS;obtain⟨P,bG,bC,rfl,hS,z⟩:=hrel;by_cases Y:P<=b
   ·have aN:(P:Int)<=(b:Int):=by omega
    have Z:P<m:=by omega
    have aO:(P:Int)<(m:Int):=by omega
    obtain⟨o,ho⟩:=e_ (ordR L d[P]! d[a]!);have T:Hd (∀ {U:World},Below wr.heap.size wr U ->Calls Tryz.prog 82 #[.slice A n cA,.int .i64 d[P]!,.int .i64 d[a]!] U (rb_ (.int .i64 o) U)):=fun hU=>by rw [<-ho];exact hS.o.cmp cA Z S hU
    have Q:ltR L d[P]! d[a]! =decide (o<0):=by rw [<-ho];rfl
    clear ho;by_cases aC:o<0
    ·have M:decide (o<0)=true:=T_ aC;have hN:Hd (Sort.scanUp (fun x=>ltR L x d[a]!) d b (P+1)=I):=by show _=_;rw [<-z.o];symm;rw [Sort.scanUp,show decide (P<=b)=true from T_ Y,Bool.true_and];rw [Q,M];simp
     clear z Q;go_wp2_with fail;have y:Hd (Below wr.heap.size wr wr):=Below.refl _ _
     go_wp2
     refine wb_ wr.heap.size ?_;intro C X
     repeat(go_big_quiet_step (first
      |((intro _;with_reducible rfl))
      |(intro D;have f:=b_ y D;simp only [(hS.o.below f).cell Z,(hS.o.below f).cell S,Result.andThen];exact⟨trivial,rfl⟩)
      |(intro D;have f:=b_ y D;(with_reducible refine(T.o f).mono ?_);rintro e aG ⟨rfl,hw⟩;exact⟨rfl,u_ D hw⟩)))
     intro w9 q;clear X;have G:=H_ (hS.o.below q);clear q y hS
     go_wp2
     go_roundw
     ·exact⟨P+1,by omega,by omega,by go_num,G,hN⟩
     ·simp [intOf]<;>omega
    ·have M:decide (o<0)=false:=F_ aC;have hE:I=P:=by rw [<-z.o];symm;rw [Sort.scanUp,show decide (P<=b)=true from T_ Y,Bool.true_and];rw [Q,M];simp
     clear z Q;go_wp2_with fail;have y:Hd (Below wr.heap.size wr wr):=Below.refl _ _
     go_wp2
     refine wb_ wr.heap.size ?_;intro C X
     repeat(go_big_quiet_step (first
      |((intro _;with_reducible rfl))
      |(intro D;have f:=b_ y D;simp only [(hS.o.below f).cell Z,(hS.o.below f).cell S,Result.andThen];exact⟨trivial,rfl⟩)
      |(intro D;have f:=b_ y D;(with_reducible refine(T.o f).mono ?_);rintro e aG ⟨rfl,hw⟩;exact⟨rfl,u_ D hw⟩)))
     intro w9 q;clear X;have G:=H_ (hS.o.below q);clear q y hS
     go_wp2
     go_meet
     exact⟨by rw [hE]<;>first|rfl|go_num,G⟩
   ·have hE:I=P:=by rw [<-z.o];rw [Sort.scanUp,show decide (P<=b)=false from F_ Y];simp
    have aM:decide ((P:Int)<=(b:Int))=false:=F_ (by omega);clear z
    go_wp2
    refine wb_ wr.heap.size ?_;intro C X
    repeat(go_big_quiet_step (first
     |((intro _;with_reducible rfl))
    ))
    intro w9 q;clear X;have G:=H_ (hS.o.below q);clear q hS
    go_wp2
    go_meet
    exact⟨by rw [hE],G⟩
 case' rest=>
  obtain⟨rfl,aB⟩:=hcut;clear hS;have hS:=aB;clear aB
 go_upto_block 2 with fail;go_cut [13] (fun v wx=>v= .int .i64 (J:Nat)/\Hd (SW w0 A n L wS g m c d wx))
 ·go_wp2
  go_loopw [13] (fun jv wr=> ∃ N:Nat,N<=b/\jv= .int .i64 N/\Hd (SW w0 A n L wS g m c d wr)/\Hd (Sort.scanDown (fun x=> !ltR L x d[a]!) d I N=J)) (fun jv _=>(intOf jv).toNat)
  ·exact⟨b,Nat.le_refl _,by first|rfl|go_num,hS,hJ⟩
  ·clear hS;obtain⟨N,bH,rfl,hS,z⟩:=hrel;by_cases Y:I<=N
   ·obtain⟨N,rfl⟩: ∃ k,N=k+1:=⟨N-1,by omega⟩
    have aN:(I:Int)<=(N:Int)+1:=by omega
    have Z:N+1<m:=by omega
    have aO:(N:Int)+1<(m:Int):=by omega
    obtain⟨o,ho⟩:=e_ (ordR L d[N+1]! d[a]!);have T:Hd (∀ {U:World},Below wr.heap.size wr U ->Calls Tryz.prog 82 #[.slice A n cA,.int .i64 d[N+1]!,.int .i64 d[a]!] U (rb_ (.int .i64 o) U)):=fun hU=>by rw [<-ho];exact hS.o.cmp cA Z S hU
    have Q:ltR L d[N+1]! d[a]! =decide (o<0):=by rw [<-ho];rfl
    clear ho;by_cases aC:o<0
    ·have M:decide (o<0)=true:=T_ aC;have hE:J=N+1:=by rw [<-z.o];symm;rw [Sort.scanDown,show decide (I<=N+1)=true from T_ Y,Bool.true_and];rw [Q,M];simp
     clear z Q;go_wp2_with fail;have y:Hd (Below wr.heap.size wr wr):=Below.refl _ _
     go_wp2
     refine wb_ wr.heap.size ?_;intro C X
     repeat(go_big_quiet_step (first
      |((intro _;with_reducible rfl))
      |(intro D;have f:=b_ y D;simp only [(hS.o.below f).cell Z,(hS.o.below f).cell S,Result.andThen];exact⟨trivial,rfl⟩)
      |(intro D;have f:=b_ y D;(with_reducible refine(T.o f).mono ?_);rintro e aG ⟨rfl,hw⟩;exact⟨rfl,u_ D hw⟩)))
     intro w9 q;clear X;have G:=H_ (hS.o.below q);clear q y hS
     go_wp2
     go_meet
     exact⟨by rw [hE]<;>first|rfl|go_num,G⟩
    ·have M:decide (o<0)=false:=F_ aC;have hN:Hd (Sort.scanDown (fun x=> !ltR L x d[a]!) d I N=J):=by show _=_;rw [<-z.o];symm;rw [Sort.scanDown,show decide (I<=N+1)=true from T_ Y,Bool.true_and];rw [Q,M];simp
     clear z Q;go_wp2_with fail;have y:Hd (Below wr.heap.size wr wr):=Below.refl _ _
     go_wp2
     refine wb_ wr.heap.size ?_;intro C X
     repeat(go_big_quiet_step (first
      |((intro _;with_reducible rfl))
      |(intro D;have f:=b_ y D;simp only [(hS.o.below f).cell Z,(hS.o.below f).cell S,Result.andThen];exact⟨trivial,rfl⟩)
      |(intro D;have f:=b_ y D;(with_reducible refine(T.o f).mono ?_);rintro e aG ⟨rfl,hw⟩;exact⟨rfl,u_ D hw⟩)))
     intro w9 q;clear X;have G:=H_ (hS.o.below q);clear q y hS
     go_wp2
     go_roundw
     ·exact⟨N,by omega,by go_num,G,hN⟩
     ·simp [intOf]<;>omega
   ·have hE:J=N:=by rw [<-z.o];exact ej_ Y
    have aM:decide ((I:Int)<=(N:Int))=false:=F_ (by omega);clear z
    go_wp2
    refine wb_ wr.heap.size ?_;intro C X
    repeat(go_big_quiet_step (first
     |((intro _;with_reducible rfl))
    ))
    intro w9 q;clear X;have G:=H_ (hS.o.below q);clear q hS
    go_wp2
    go_meet
    exact⟨by rw [hE],G⟩
 case' rest=>
  obtain⟨rfl,aB⟩:=hcut;clear hS;have hS:=aB;clear aB
 by_cases aJ:J<I
 ·have aH:(J:Int)<(I:Int):=by omega
  have s:J<m:=by omega
  have aI:(J:Int)<(m:Int):=by omega
  rw [if_pos aJ] at aA
  go_wp2
  refine wl_ [0,0,1,1,0,0,0,0,0,0,0,0,0,2,2,2] ?_;intro C X;simp only [af_,Nat.reduceEqDiff, ↓reduceIte]
  repeat(go_big_quiet_step (first
   |(intro _;with_reducible rfl)
   |(intro D;simp only [(hS.o.below D).cell s,(hS.o.below D).cell S,Result.andThen];exact⟨trivial,rfl⟩)))
  clear X;intro C' aD
  repeat(go_big_quiet_step (first|(intro _;with_reducible rfl)))
  clear aD;intro wq r;obtain⟨W1,W2,aR,aT,aV,⟨y9,aS⟩,aU,aW,F⟩:=(hS.o.below r).swap s S;replace F:=H_ F;clear r
  go_wp2
  go_returns;rw [<-aA.o];exact⟨rfl,F.o⟩
 ·have aH: ¬ (J:Int)<(I:Int):=by omega
  rw [if_neg aJ] at aA;obtain⟨J,rfl⟩: ∃ k,J=k+1:=⟨J-1,by omega⟩
  have aK:I<m:=by omega
  have s:J+1<m:=by omega
  have aX:(I:Int)<(m:Int):=by omega
  have aI:(J:Int)+1<(m:Int):=by omega
  rw [Nat.add_sub_cancel] at aA
  go_wp2
  refine wl_ [0,0,1,1,0,0,0,0,0,0,0,0,0,2,2,2] ?_;intro C X;simp only [af_,Nat.reduceEqDiff, ↓reduceIte]
  repeat(go_big_quiet_step (first
   |(intro _;with_reducible rfl)
   |(intro D;simp only [(hS.o.below D).cell aK,(hS.o.below D).cell s,Result.andThen];exact⟨trivial,rfl⟩)))
  clear X;intro C' aD
  repeat(go_big_quiet_step (first|(intro _;with_reducible rfl)))
  clear aD;intro wq r;obtain⟨W1,W2,aR,aT,aV,⟨y9,aS⟩,aU,aW,F⟩:=(hS.o.below r).swap aK s;replace F:=H_ F;clear r;obtain⟨d2,bB⟩:=e_ (Sort.swp d I (J+1));rw [bB] at aA F;obtain⟨PR,aY⟩:=e_ (Sort.partLoop (ltR L) a (I+1) J d2);rw [aY] at aA;have aZ:=H_ aY;have aL:Hd (I+1<=m/\I+1<=J+2/\J<m/\a<I+1):=by show _/\_;omega
  clear bB aY hI hJ hS aJ aH aK s b1 b2 b3 b4 bF
  go_wp2
  go_loopw [12,13] (fun iv jv wr=> ∃ (i j:Nat) (d:Array Int),i<=m/\i<=j+2/\j<m/\a<i/\iv= .int .i64 i/\jv= .int .i64 j/\Hd (SW w0 A n L wS g m c d wr)/\Hd (Sort.partLoop (ltR L) a i j d=PR)) (fun iv jv _=>(intOf jv).toNat +1-(intOf iv).toNat)
  ·exact⟨I+1,J,d2,aL.o.1,aL.o.2.1,aL.o.2.2.1,aL.o.2.2.2,by go_num,by first|rfl|go_num,F,aZ⟩
  ·clear F aZ aL aX aI;obtain⟨i,j,d,l1,l2,l3,l4,rfl,rfl,hS,hP⟩:=hrel;obtain⟨wo,rfl⟩: ∃ wo:World,wo=wr:=⟨_,rfl⟩
   obtain⟨I,hI⟩:=e_ (Sort.scanUp (fun x=>ltR L x d[a]!) d j i);obtain⟨J,hJ⟩:=e_ (Sort.scanDown (fun x=> !ltR L x d[a]!) d I j);have aE:=c9_ (p:=fun x=>ltR L x d[a]!) (d:=d) (j:=j) (n:=j+1-i) (i:=i) rfl;rw [hI] at aE;have aF:=cB_ (p:=fun x=> !ltR L x d[a]!) (d:=d) (i:=I) (j:=j);rw [hJ] at aF;have aP:=H_ (jT_ (lt:=ltR L) (a:=a) (i:=i) (j:=j) (d:=d) (by omega) hI hJ);replace hI:=H_ hI;replace hJ:=H_ hJ;have b1:i<=I:=aE.1;have b2:I<=m:=by have:=aE.2;omega
   have b3:J<=j:=aF.1;clear aE aF;go_upto_block 6 with fail;go_cut [12] (fun v wx=>v= .int .i64 (I:Nat)/\Hd (SW w0 A n L wS g m c d wx))
   ·go_wp2
    go_loopw [12] (fun iv wr=> ∃ P:Nat,i<=P/\P<=m/\iv= .int .i64 P/\Hd (SW w0 A n L wS g m c d wr)/\Hd (Sort.scanUp (fun x=>ltR L x d[a]!) d j P=I)) (fun iv _=>m+1-(intOf iv).toNat)
    ·exact⟨i,Nat.le_refl _,by omega,by first|rfl|go_num,hS,hI⟩
    ·clear hS;obtain⟨P,bG,bC,rfl,hS,z⟩:=hrel;by_cases Y:P<=j
     ·have aN:(P:Int)<=(j:Int):=by omega
      have Z:P<m:=by omega
      have aO:(P:Int)<(m:Int):=by omega
      obtain⟨o,ho⟩:=e_ (ordR L d[P]! d[a]!);have T:Hd (∀ {U:World},Below wr.heap.size wr U ->Calls Tryz.prog 82 #[.slice A n cA,.int .i64 d[P]!,.int .i64 d[a]!] U (rb_ (.int .i64 o) U)):=fun hU=>by rw [<-ho];exact hS.o.cmp cA Z S hU
      have Q:ltR L d[P]! d[a]! =decide (o<0):=by rw [<-ho];rfl
      clear ho;by_cases aC:o<0
      ·have M:decide (o<0)=true:=T_ aC;have hN:Hd (Sort.scanUp (fun x=>ltR L x d[a]!) d j (P+1)=I):=by show _=_;rw [<-z.o];symm;rw [Sort.scanUp,show decide (P<=j)=true from T_ Y,Bool.true_and];rw [Q,M];simp
       clear z Q;go_wp2_with fail;have y:Hd (Below wr.heap.size wr wr):=Below.refl _ _
       go_wp2
       refine wb_ wr.heap.size ?_;intro C X
       repeat(go_big_quiet_step (first
        |((intro _;with_reducible rfl))
        |(intro D;have f:=b_ y D;simp only [(hS.o.below f).cell Z,(hS.o.below f).cell S,Result.andThen];exact⟨trivial,rfl⟩)
        |(intro D;have f:=b_ y D;(with_reducible refine(T.o f).mono ?_);rintro e aG ⟨rfl,hw⟩;exact⟨rfl,u_ D hw⟩)))
       intro w9 q;clear X;have G:=H_ (hS.o.below q);clear q y hS
       go_wp2
       go_roundw
       ·exact⟨P+1,by omega,by omega,by go_num,G,hN⟩
       ·simp [intOf]<;>omega
      ·have M:decide (o<0)=false:=F_ aC;have hE:I=P:=by rw [<-z.o];symm;rw [Sort.scanUp,show decide (P<=j)=true from T_ Y,Bool.true_and];rw [Q,M];simp
       clear z Q;go_wp2_with fail;have y:Hd (Below wr.heap.size wr wr):=Below.refl _ _
       go_wp2
       refine wb_ wr.heap.size ?_;intro C X
       repeat(go_big_quiet_step (first
        |((intro _;with_reducible rfl))
        |(intro D;have f:=b_ y D;simp only [(hS.o.below f).cell Z,(hS.o.below f).cell S,Result.andThen];exact⟨trivial,rfl⟩)
        |(intro D;have f:=b_ y D;(with_reducible refine(T.o f).mono ?_);rintro e aG ⟨rfl,hw⟩;exact⟨rfl,u_ D hw⟩)))
       intro w9 q;clear X;have G:=H_ (hS.o.below q);clear q y hS
       go_wp2
       go_meet
       exact⟨by rw [hE]<;>first|rfl|go_num,G⟩
     ·have hE:I=P:=by rw [<-z.o];rw [Sort.scanUp,show decide (P<=j)=false from F_ Y];simp
      have aM:decide ((P:Int)<=(j:Int))=false:=F_ (by omega);clear z
      go_wp2
      refine wb_ wr.heap.size ?_;intro C X
      repeat(go_big_quiet_step (first
       |((intro _;with_reducible rfl))
      ))
      intro w9 q;clear X;have G:=H_ (hS.o.below q);clear q hS
      go_wp2
      go_meet
      exact⟨by rw [hE],G⟩
   case' rest=>
    obtain⟨rfl,aB⟩:=hcut;clear hS;have hS:=aB;clear aB
   go_upto_block 8 with fail;go_cut [13] (fun v wx=>v= .int .i64 (J:Nat)/\Hd (SW w0 A n L wS g m c d wx))
   ·go_wp2
    go_loopw [13] (fun jv wr=> ∃ N:Nat,N<=j/\jv= .int .i64 N/\Hd (SW w0 A n L wS g m c d wr)/\Hd (Sort.scanDown (fun x=> !ltR L x d[a]!) d I N=J)) (fun jv _=>(intOf jv).toNat)
    ·exact⟨j,Nat.le_refl _,by first|rfl|go_num,hS,hJ⟩
    ·clear hS;obtain⟨N,bH,rfl,hS,z⟩:=hrel;by_cases Y:I<=N
     ·obtain⟨N,rfl⟩: ∃ k,N=k+1:=⟨N-1,by omega⟩
      have aN:(I:Int)<=(N:Int)+1:=by omega
      have Z:N+1<m:=by omega
      have aO:(N:Int)+1<(m:Int):=by omega
      obtain⟨o,ho⟩:=e_ (ordR L d[N+1]! d[a]!);have T:Hd (∀ {U:World},Below wr.heap.size wr U ->Calls Tryz.prog 82 #[.slice A n cA,.int .i64 d[N+1]!,.int .i64 d[a]!] U (rb_ (.int .i64 o) U)):=fun hU=>by rw [<-ho];exact hS.o.cmp cA Z S hU
      have Q:ltR L d[N+1]! d[a]! =decide (o<0):=by rw [<-ho];rfl
      clear ho;by_cases aC:o<0
      ·have M:decide (o<0)=true:=T_ aC;have hE:J=N+1:=by rw [<-z.o];symm;rw [Sort.scanDown,show decide (I<=N+1)=true from T_ Y,Bool.true_and];rw [Q,M];simp
       clear z Q;go_wp2_with fail;have y:Hd (Below wr.heap.size wr wr):=Below.refl _ _
       go_wp2
       refine wb_ wr.heap.size ?_;intro C X
       repeat(go_big_quiet_step (first
        |((intro _;with_reducible rfl))
        |(intro D;have f:=b_ y D;simp only [(hS.o.below f).cell Z,(hS.o.below f).cell S,Result.andThen];exact⟨trivial,rfl⟩)
        |(intro D;have f:=b_ y D;(with_reducible refine(T.o f).mono ?_);rintro e aG ⟨rfl,hw⟩;exact⟨rfl,u_ D hw⟩)))
       intro w9 q;clear X;have G:=H_ (hS.o.below q);clear q y hS
       go_wp2
       go_meet
       exact⟨by rw [hE]<;>first|rfl|go_num,G⟩
      ·have M:decide (o<0)=false:=F_ aC;have hN:Hd (Sort.scanDown (fun x=> !ltR L x d[a]!) d I N=J):=by show _=_;rw [<-z.o];symm;rw [Sort.scanDown,show decide (I<=N+1)=true from T_ Y,Bool.true_and];rw [Q,M];simp
       clear z Q;go_wp2_with fail;have y:Hd (Below wr.heap.size wr wr):=Below.refl _ _
       go_wp2
       refine wb_ wr.heap.size ?_;intro C X
       repeat(go_big_quiet_step (first
        |((intro _;with_reducible rfl))
        |(intro D;have f:=b_ y D;simp only [(hS.o.below f).cell Z,(hS.o.below f).cell S,Result.andThen];exact⟨trivial,rfl⟩)
        |(intro D;have f:=b_ y D;(with_reducible refine(T.o f).mono ?_);rintro e aG ⟨rfl,hw⟩;exact⟨rfl,u_ D hw⟩)))
       intro w9 q;clear X;have G:=H_ (hS.o.below q);clear q y hS
       go_wp2
       go_roundw
       ·exact⟨N,by omega,by go_num,G,hN⟩
       ·simp [intOf]<;>omega
     ·have hE:J=N:=by rw [<-z.o];exact ej_ Y
      have aM:decide ((I:Int)<=(N:Int))=false:=F_ (by omega);clear z
      go_wp2
      refine wb_ wr.heap.size ?_;intro C X
      repeat(go_big_quiet_step (first
       |((intro _;with_reducible rfl))
      ))
      intro w9 q;clear X;have G:=H_ (hS.o.below q);clear q hS
      go_wp2
      go_meet
      exact⟨by rw [hE],G⟩
   case' rest=>
    obtain⟨rfl,aB⟩:=hcut;clear hS;have hS:=aB;clear aB
   by_cases aJ:J<I
   ·have aH:(J:Int)<(I:Int):=by omega
    have s:J<m:=by omega
    have aI:(J:Int)<(m:Int):=by omega
    have hE:Hd ((J,d)=PR):=by show _=_;rw [<-hP.o,aP.o,if_pos aJ]
    rw [<-hE.o] at aA;clear hP aP hE
    go_wp2
    refine wl_ [0,0,1,1,0,0,0,0,0,0,0,0,0,2,2,2] ?_;intro C X;simp only [af_,Nat.reduceEqDiff, ↓reduceIte]
    repeat(go_big_quiet_step (first
     |(intro _;with_reducible rfl)
     |(intro D;simp only [(hS.o.below D).cell s,(hS.o.below D).cell S,Result.andThen];exact⟨trivial,rfl⟩)))
    clear X;intro C' aD
    repeat(go_big_quiet_step (first|(intro _;with_reducible rfl)))
    clear aD;intro wq r;obtain⟨W1,W2,aR,aT,aV,⟨y9,aS⟩,aU,aW,F⟩:=(hS.o.below r).swap s S;replace F:=H_ F;clear r
    go_wp2
    go_returns;rw [<-aA.o];exact⟨rfl,F.o⟩
   ·have aH: ¬ (J:Int)<(I:Int):=by omega
    obtain⟨J,rfl⟩: ∃ k,J=k+1:=⟨J-1,by omega⟩
    have aK:I<m:=by omega
    have s:J+1<m:=by omega
    have aX:(I:Int)<(m:Int):=by omega
    have aI:(J:Int)+1<(m:Int):=by omega
    have bE:Hd (Sort.partLoop (ltR L) a (I+1) J (Sort.swp d I (J+1))=PR):=by show _=_;rw [<-hP.o,aP.o,if_neg aJ,Nat.add_sub_cancel]
    clear hP aP
    go_wp2
    refine wl_ [0,0,1,1,0,0,0,0,0,0,0,0,0,2,2,2] ?_;intro C X;simp only [af_,Nat.reduceEqDiff, ↓reduceIte]
    repeat(go_big_quiet_step (first
     |(intro _;with_reducible rfl)
     |(intro D;simp only [(hS.o.below D).cell aK,(hS.o.below D).cell s,Result.andThen];exact⟨trivial,rfl⟩)))
    clear X;intro C' aD
    repeat(go_big_quiet_step (first|(intro _;with_reducible rfl)))
    clear aD;intro wq r;obtain⟨W1,W2,aR,aT,aV,⟨y9,aS⟩,aU,aW,F⟩:=(hS.o.below r).swap aK s;replace F:=H_ F;clear r
    go_wp2
    go_roundw
    ·exact⟨I+1,J,_,by omega,by omega,by omega,by omega,by go_num,by first|rfl|go_num,F,bE⟩
    ·simp [intOf]<;>omega
theorem eh_ {lt:Int ->Int ->Bool} {a i j I J:Nat} {d:Array Int} (h1:1<=i) (hI:Sort.scanUp (fun x=> !lt d[a]! x) d j i=I) (hJ:Sort.scanDown (fun x=>lt d[a]! x) d I j=J):
 Sort.partEqLoop lt a i j d=if J<I then(I,d) else Sort.partEqLoop lt a (I+1) (J-1) (Sort.swp d I J):=by
 have f:=(c9_ (p:=fun x=> !lt d[a]! x) (d:=d) (j:=j) (n:=j+1-i) (i:=i) rfl).1;have g:=(cB_ (p:=fun x=>lt d[a]! x) (d:=d) (i:=I) (j:=j)).1;rw [hI] at f;rw [hJ] at g;rw [Sort.partEqLoop];simp only [hI,hJ];by_cases h:J<I
 ·rw [if_pos h,if_pos h]
 ·rw [if_neg h,if_neg h,dif_pos (by omega)]
def pI_ (P:Array Int ->World ->Prop) (r:Nat×Array Int) (e:Ending) (w':World):Prop:=e= .returned (.int .i64 (r.1:Int))/\P r.2 w'
theorem pz_ {w0 wS w:World} {A:Option Addr} {n g m c:Nat} {L:List RunP} {d:Array Int} (cA:Nat) (hS:SW w0 A n L wS g m c d w) (hm:m<=100000) (a b pivot:Nat) (ha:a<=pivot) (hp:pivot<b) (hb:b<=m):
 Calls Tryz.prog 153 #[.slice (some ⟨g,0,none⟩) m c,.int .i64 (a:Int),.int .i64 (b:Int),.int .i64 (pivot:Int),.func (.func 82) #[.slice A n cA] #[]] w (pI_ (SW w0 A n L wS g m c) (Sort.partitionEqual (ltR L) d a b pivot)):=by
 have aE:=H_ hS;obtain⟨R,hR⟩:=e_ (Sort.partitionEqual (ltR L) d a b pivot);rw [hR];unfold Sort.partitionEqual at hR;obtain⟨b,rfl⟩: ∃ k,b=k+1:=⟨b-1,by omega⟩
 rw [Nat.add_sub_cancel] at hR;have S:a<m:=by omega
 have aI:pivot<m:=by omega
 have bD:(a:Int)<(m:Int):=by omega
 have aS:(pivot:Int)<(m:Int):=by omega
 have bF:b<m:=by omega
 have aH:=H_ hR;have aO:((b+1:Nat):Int)=(b:Int)+1:=by omega
 have r:Hd (a+1<=m/\a+1<=b+2/\b<m/\a<a+1):=by show _/\_;omega
 rw [aO];clear hS hR aO;go_enter Tryz.func153,Tryz.ntmps153
 go_wp2
 refine wl_ [0,0,1,1,0,0,0,0,0,0,0,0,0,2,2,2] ?_;intro C X;simp only [af_,Nat.reduceEqDiff, ↓reduceIte]
 repeat(go_big_quiet_step (first
  |(intro _;with_reducible rfl)
  |(intro D;simp only [(aE.o.below D).cell S,(aE.o.below D).cell aI,Result.andThen];exact⟨trivial,rfl⟩)))
 clear X;intro C' aF
 repeat(go_big_quiet_step (first|(intro _;with_reducible rfl)))
 clear aF;intro wq aA;obtain⟨W1,W2,aV,aX,aZ,⟨y9,aW⟩,aY,bA,P⟩:=(aE.o.below aA).swap S aI;replace P:=H_ P;clear aA;obtain⟨d2,aP⟩:=e_ (Sort.swp d a pivot);rw [aP] at aH P;clear aP aE
 go_wp2
 go_loopw [11,12] (fun iv jv wr=> ∃ (i j:Nat) (d:Array Int),i<=m/\i<=j+2/\j<m/\a<i/\iv= .int .i64 i/\jv= .int .i64 j/\Hd (SW w0 A n L wS g m c d wr)/\Hd (Sort.partEqLoop (ltR L) a i j d=R)) (fun iv jv _=>(intOf jv).toNat +1-(intOf iv).toNat)
 ·exact⟨a+1,b,d2,r.o.1,r.o.2.1,r.o.2.2.1,r.o.2.2.2,by go_num,by first|rfl|go_num,P,aH⟩
 ·clear P aH r hp aI aS hb ha;obtain⟨i,j,d,l1,l2,l3,l4,rfl,rfl,hS,hP⟩:=hrel;obtain⟨wo,rfl⟩: ∃ wo:World,wo=wr:=⟨_,rfl⟩
  obtain⟨I,hI⟩:=e_ (Sort.scanUp (fun x=> !ltR L d[a]! x) d j i);obtain⟨J,hJ⟩:=e_ (Sort.scanDown (fun x=>ltR L d[a]! x) d I j);have aC:=c9_ (p:=fun x=> !ltR L d[a]! x) (d:=d) (j:=j) (n:=j+1-i) (i:=i) rfl;rw [hI] at aC;have aG:=cB_ (p:=fun x=>ltR L d[a]! x) (d:=d) (i:=I) (j:=j);rw [hJ] at aG;have aD:=H_ (eh_ (lt:=ltR L) (a:=a) (i:=i) (j:=j) (d:=d) (by omega) hI hJ);replace hI:=H_ hI;replace hJ:=H_ hJ;have b1:i<=I:=aC.1;have b2:I<=m:=by have:=aC.2;omega
  have b3:J<=j:=aG.1;clear aC aG;go_upto_block 2 with fail;go_cut [11] (fun v wx=>v= .int .i64 (I:Nat)/\Hd (SW w0 A n L wS g m c d wx))
  ·go_wp2
   go_loopw [11] (fun iv wr=> ∃ N:Nat,i<=N/\N<=m/\iv= .int .i64 N/\Hd (SW w0 A n L wS g m c d wr)/\Hd (Sort.scanUp (fun x=> !ltR L d[a]! x) d j N=I)) (fun iv _=>m+1-(intOf iv).toNat)
   ·exact⟨i,Nat.le_refl _,by omega,by first|rfl|go_num,hS,hI⟩
   ·clear hS;obtain⟨N,bG,bE,rfl,hS,z⟩:=hrel;by_cases Y:N<=j
    ·have aR:(N:Int)<=(j:Int):=by omega
     have Z:N<m:=by omega
     have aT:(N:Int)<(m:Int):=by omega
     obtain⟨o,ho⟩:=e_ (ordR L d[a]! d[N]!);have T:Hd (∀ {U:World},Below wr.heap.size wr U ->Calls Tryz.prog 82 #[.slice A n cA,.int .i64 d[a]!,.int .i64 d[N]!] U (rb_ (.int .i64 o) U)):=fun hU=>by rw [<-ho];exact hS.o.cmp cA S Z hU
     have Q:ltR L d[a]! d[N]! =decide (o<0):=by rw [<-ho];rfl
     clear ho;by_cases aB:o<0
     ·have G:decide (o<0)=true:=T_ aB;have hE:I=N:=by rw [<-z.o];symm;rw [Sort.scanUp,show decide (N<=j)=true from T_ Y,Bool.true_and];rw [Q,G];simp
      clear z Q;go_wp2_with fail;have y:Hd (Below wr.heap.size wr wr):=Below.refl _ _
      go_wp2
      refine wb_ wr.heap.size ?_;intro C X
      repeat(go_big_quiet_step (first
       |((intro _;with_reducible rfl))
       |(intro D;have f:=b_ y D;simp only [(hS.o.below f).cell S,(hS.o.below f).cell Z,Result.andThen];exact⟨trivial,rfl⟩)
       |(intro D;have f:=b_ y D;(with_reducible refine(T.o f).mono ?_);rintro e aJ ⟨rfl,hw⟩;exact⟨rfl,u_ D hw⟩)))
      intro w9 q;clear X;have F:=H_ (hS.o.below q);clear q y hS
      go_wp2
      go_meet
      exact⟨by rw [hE]<;>first|rfl|go_num,F⟩
     ·have G:decide (o<0)=false:=F_ aB;have hN:Hd (Sort.scanUp (fun x=> !ltR L d[a]! x) d j (N+1)=I):=by show _=_;rw [<-z.o];symm;rw [Sort.scanUp,show decide (N<=j)=true from T_ Y,Bool.true_and];rw [Q,G];simp
      clear z Q;go_wp2_with fail;have y:Hd (Below wr.heap.size wr wr):=Below.refl _ _
      go_wp2
      refine wb_ wr.heap.size ?_;intro C X
      repeat(go_big_quiet_step (first
       |((intro _;with_reducible rfl))
       |(intro D;have f:=b_ y D;simp only [(hS.o.below f).cell S,(hS.o.below f).cell Z,Result.andThen];exact⟨trivial,rfl⟩)
       |(intro D;have f:=b_ y D;(with_reducible refine(T.o f).mono ?_);rintro e aJ ⟨rfl,hw⟩;exact⟨rfl,u_ D hw⟩)))
      intro w9 q;clear X;have F:=H_ (hS.o.below q);clear q y hS
      go_wp2
      go_roundw
      ·exact⟨N+1,by omega,by omega,by go_num,F,hN⟩
      ·simp [intOf]<;>omega
    ·have hE:I=N:=by rw [<-z.o];rw [Sort.scanUp,show decide (N<=j)=false from F_ Y];simp
     have aQ:decide ((N:Int)<=(j:Int))=false:=F_ (by omega);clear z
     go_wp2
     refine wb_ wr.heap.size ?_;intro C X
     repeat(go_big_quiet_step (first
      |((intro _;with_reducible rfl))
     ))
     intro w9 q;clear X;have F:=H_ (hS.o.below q);clear q hS
     go_wp2
     go_meet
     exact⟨by rw [hE],F⟩
  case' rest=>
   obtain⟨rfl,s⟩:=hcut;clear hS;have hS:=s;clear s
  go_upto_block 4 with fail;go_cut [12] (fun v wx=>v= .int .i64 (J:Nat)/\Hd (SW w0 A n L wS g m c d wx))
  ·go_wp2
   go_loopw [12] (fun jv wr=> ∃ M:Nat,M<=j/\jv= .int .i64 M/\Hd (SW w0 A n L wS g m c d wr)/\Hd (Sort.scanDown (fun x=>ltR L d[a]! x) d I M=J)) (fun jv _=>(intOf jv).toNat)
   ·exact⟨j,Nat.le_refl _,by first|rfl|go_num,hS,hJ⟩
   ·clear hS;obtain⟨M,bH,rfl,hS,z⟩:=hrel;by_cases Y:I<=M
    ·obtain⟨M,rfl⟩: ∃ k,M=k+1:=⟨M-1,by omega⟩
     have aR:(I:Int)<=(M:Int)+1:=by omega
     have Z:M+1<m:=by omega
     have aT:(M:Int)+1<(m:Int):=by omega
     obtain⟨o,ho⟩:=e_ (ordR L d[a]! d[M+1]!);have T:Hd (∀ {U:World},Below wr.heap.size wr U ->Calls Tryz.prog 82 #[.slice A n cA,.int .i64 d[a]!,.int .i64 d[M+1]!] U (rb_ (.int .i64 o) U)):=fun hU=>by rw [<-ho];exact hS.o.cmp cA S Z hU
     have Q:ltR L d[a]! d[M+1]! =decide (o<0):=by rw [<-ho];rfl
     clear ho;by_cases aB:o<0
     ·have G:decide (o<0)=true:=T_ aB;have hN:Hd (Sort.scanDown (fun x=>ltR L d[a]! x) d I M=J):=by show _=_;rw [<-z.o];symm;rw [Sort.scanDown,show decide (I<=M+1)=true from T_ Y,Bool.true_and];rw [Q,G];simp
      clear z Q;go_wp2_with fail;have y:Hd (Below wr.heap.size wr wr):=Below.refl _ _
      go_wp2
      refine wb_ wr.heap.size ?_;intro C X
      repeat(go_big_quiet_step (first
       |((intro _;with_reducible rfl))
       |(intro D;have f:=b_ y D;simp only [(hS.o.below f).cell S,(hS.o.below f).cell Z,Result.andThen];exact⟨trivial,rfl⟩)
       |(intro D;have f:=b_ y D;(with_reducible refine(T.o f).mono ?_);rintro e aJ ⟨rfl,hw⟩;exact⟨rfl,u_ D hw⟩)))
      intro w9 q;clear X;have F:=H_ (hS.o.below q);clear q y hS
      go_wp2
      go_roundw
      ·exact⟨M,by omega,by go_num,F,hN⟩
      ·simp [intOf]<;>omega
     ·have G:decide (o<0)=false:=F_ aB;have hE:J=M+1:=by rw [<-z.o];symm;rw [Sort.scanDown,show decide (I<=M+1)=true from T_ Y,Bool.true_and];rw [Q,G];simp
      clear z Q;go_wp2_with fail;have y:Hd (Below wr.heap.size wr wr):=Below.refl _ _
      go_wp2
      refine wb_ wr.heap.size ?_;intro C X
      repeat(go_big_quiet_step (first
       |((intro _;with_reducible rfl))
       |(intro D;have f:=b_ y D;simp only [(hS.o.below f).cell S,(hS.o.below f).cell Z,Result.andThen];exact⟨trivial,rfl⟩)
       |(intro D;have f:=b_ y D;(with_reducible refine(T.o f).mono ?_);rintro e aJ ⟨rfl,hw⟩;exact⟨rfl,u_ D hw⟩)))
      intro w9 q;clear X;have F:=H_ (hS.o.below q);clear q y hS
      go_wp2
      go_meet
      exact⟨by rw [hE]<;>first|rfl|go_num,F⟩
    ·have hE:J=M:=by rw [<-z.o];exact ej_ Y
     have aQ:decide ((I:Int)<=(M:Int))=false:=F_ (by omega);clear z
     go_wp2
     refine wb_ wr.heap.size ?_;intro C X
     repeat(go_big_quiet_step (first
      |((intro _;with_reducible rfl))
     ))
     intro w9 q;clear X;have F:=H_ (hS.o.below q);clear q hS
     go_wp2
     go_meet
     exact⟨by rw [hE],F⟩
  case' rest=>
   obtain⟨rfl,s⟩:=hcut;clear hS;have hS:=s;clear s
  by_cases aK:J<I
  ·have aL:(J:Int)<(I:Int):=by omega
   have hE:Hd ((I,d)=R):=by show _=_;rw [<-hP.o,aD.o,if_pos aK]
   clear hP aD
   go_wp2
   go_returns;rw [<-hE.o];exact⟨rfl,hS.o⟩
  ·have aL: ¬ (J:Int)<(I:Int):=by omega
   obtain⟨J,rfl⟩: ∃ k,J=k+1:=⟨J-1,by omega⟩
   have aM:I<m:=by omega
   have aN:J+1<m:=by omega
   have bB:(I:Int)<(m:Int):=by omega
   have bC:(J:Int)+1<(m:Int):=by omega
   have aU:Hd (Sort.partEqLoop (ltR L) a (I+1) J (Sort.swp d I (J+1))=R):=by show _=_;rw [<-hP.o,aD.o,if_neg aK,Nat.add_sub_cancel]
   clear hP aD
   go_wp2
   refine wl_ [0,0,1,1,0,0,0,0,0,0,0,0,0,2,2,2] ?_;intro C X;simp only [af_,Nat.reduceEqDiff, ↓reduceIte]
   repeat(go_big_quiet_step (first
    |(intro _;with_reducible rfl)
    |(intro D;simp only [(hS.o.below D).cell aM,(hS.o.below D).cell aN,Result.andThen];exact⟨trivial,rfl⟩)))
   clear X;intro C' aF
   repeat(go_big_quiet_step (first|(intro _;with_reducible rfl)))
   clear aF;intro wq aA;obtain⟨W1,W2,aV,aX,aZ,⟨y9,aW⟩,aY,bA,P⟩:=(hS.o.below aA).swap aM aN;replace P:=H_ P;clear aA
   go_wp2
   go_roundw
   ·exact⟨I+1,J,_,by omega,by omega,by omega,by omega,by go_num,by first|rfl|go_num,P,aU⟩
   ·simp [intOf]<;>omega
theorem gB_ {lt:Int ->Int ->Bool} {a b:Nat}: ∀ (n i j:Nat) (d:Array Int),j+1-i<=n ->1<=i ->i<=b ->j<b ->i<=(Sort.partEqLoop lt a i j d).1/\(Sort.partEqLoop lt a i j d).1<=b:=by
 intro n
 induction n with
 |zero=>
  intro i j d h g z D;rw [eh_ g rfl rfl];have f:=(c9_ (p:=fun x=> !lt d[a]! x) (d:=d) (j:=j) (n:=j+1-i) (i:=i) rfl)
  have q:=(cB_ (p:=fun x=>lt d[a]! x) (d:=d) (i:=Sort.scanUp (fun x=> !lt d[a]! x) d j i) (j:=j)).1;rw [if_pos (by omega)];exact⟨f.1,by show Sort.scanUp _ _ _ _<=b;omega⟩
 |succ n ih=>
  intro i j d h g z D;obtain⟨I,hI⟩:=e_ (Sort.scanUp (fun x=> !lt d[a]! x) d j i);obtain⟨J,y⟩:=e_ (Sort.scanDown (fun x=>lt d[a]! x) d I j);have f:=(c9_ (p:=fun x=> !lt d[a]! x) (d:=d) (j:=j) (n:=j+1-i) (i:=i) rfl)
  have q:=(cB_ (p:=fun x=>lt d[a]! x) (d:=d) (i:=I) (j:=j)).1;rw [hI] at f;rw [y] at q;rw [eh_ g hI y];split
  ·exact⟨f.1,by show I<=b;omega⟩
  ·rename_i hn;have:=ih (I+1) (J-1) (Sort.swp d I J) (by omega) (by omega) (by omega) (by omega);exact⟨by have:=this.1;have:=f.1;omega,this.2⟩
theorem dL_ {lt:Int ->Int ->Bool} {d:Array Int} {a b pivot:Nat} (h:a<b):a<(Sort.partitionEqual lt d a b pivot).1/\(Sort.partitionEqual lt d a b pivot).1<=b:=by
 have:=gB_ (lt:=lt) (a:=a) (b:=b) _ (a+1) (b-1) (Sort.swp d a pivot) (Nat.le_refl _) (by omega) (by omega) (by omega);exact this
def f8_ (lt:Int ->Int ->Bool) (d3:Array Int) (a b lim:Nat) (wb wp:Bool) (pv:Nat):Array Int:=
 if a>0&& !lt d3[a-1]! d3[pv]! then
  Sort.pdq lt (Sort.partitionEqual lt d3 a b pv).2 (Sort.partitionEqual lt d3 a b pv).1 b lim wb wp
 else if(Sort.partition lt d3 a b pv).1-a<b-(Sort.partition lt d3 a b pv).1 then
  Sort.pdq lt (Sort.pdq lt (Sort.partition lt d3 a b pv).2.2 a (Sort.partition lt d3 a b pv).1 lim true true) ((Sort.partition lt d3 a b pv).1+1) b lim (decide ((Sort.partition lt d3 a b pv).1-a>=(b-a) / 8)) (Sort.partition lt d3 a b pv).2.1
 else Sort.pdq lt (Sort.pdq lt (Sort.partition lt d3 a b pv).2.2 ((Sort.partition lt d3 a b pv).1+1) b lim true true) a (Sort.partition lt d3 a b pv).1 lim (decide (b-(Sort.partition lt d3 a b pv).1>=(b-a) / 8)) (Sort.partition lt d3 a b pv).2.1
theorem mI_ {lt:Int ->Int ->Bool} {d:Array Int} {a b limit:Nat} {wb wp:Bool} (h:b-a<=12):Sort.pdq lt d a b limit wb wp=Sort.insertionSort lt d a b:=by rw [Sort.pdq,if_pos h]
theorem od_ {lt:Int ->Int ->Bool} {d:Array Int} {a b limit:Nat} {wb wp:Bool} (h: ¬ b-a<=12) (h0:limit=0):Sort.pdq lt d a b limit wb wp=Sort.heapSort lt d a b:=by rw [Sort.pdq,if_neg h,if_pos h0]
theorem py_ {lt:Int ->Int ->Bool} {d d1 d2 d3:Array Int} {a b limit lim p0 pv:Nat} {wb wp pi:Bool} {h0 hint:Sort.Hint} (hsw:Sort.SWO lt) (hsz:b<=d3.size) (h1: ¬ b-a<=12) (h2:limit≠0)
 (hd1:(if !wb then Sort.breakPatterns d a b else d)=d1) (hlim:(if !wb then limit-1 else limit)=lim) (hc:Sort.choosePivot lt d1 a b=(p0,h0))
 (hd2:(if h0= .decreasing then Sort.reverseRange d1 a b else d1)=d2) (hpv:(if h0= .decreasing then(b-1)-(p0-a) else p0)=pv) (hh:(if h0= .decreasing then Sort.Hint.increasing else h0)=hint)
 (hpi:(if wb&&wp&&decide (hint= .increasing) then Sort.partialInsertionSort lt d2 a b else(d2,false))=(d3,pi)) (hv:a<=pv/\pv<b):
 Sort.pdq lt d a b limit wb wp=if pi then d3 else f8_ lt d3 a b lim wb wp pv:=by
 rw [Sort.pdq,if_neg h1,if_neg h2]
 dsimp only
 rw [hd1,hlim,hc]
 dsimp only
 rw [hd2,hpv,hh,hpi]
 dsimp only
 unfold f8_;split
 ·rfl
 ·split
  ·rw [dif_pos (dL_ (by omega))]
  ·have f:=Sort.partition_holds lt hsw d3 a b pv hv.1 hv.2 hsz;rw [dif_pos ⟨f.1,f.2.1⟩]
theorem iu_ {lt:Int ->Int ->Bool} {d:Array Int} {b:Nat}: ∀ {n i:Nat},n=b-i ->i<=b ->i<=Sort.scanSorted lt d b i/\Sort.scanSorted lt d b i<=b:=by
 intro n
 induction n with
 |zero=>intro i h f;rw [Sort.scanSorted,show decide (i<b)=false from F_ (by omega)];simp;exact f
 |succ n ih=>
  intro i h f;rw [Sort.scanSorted];split
  ·have:=ih (i:=i+1) (by omega) (by omega);omega
  ·exact⟨Nat.le_refl _,f⟩
theorem it_ {lt:Int ->Int ->Bool} {d:Array Int} {b i:Nat} (h:i+1<b) (hl:lt d[i+1]! d[i]! =false):Sort.scanSorted lt d b (i+1)=Sort.scanSorted lt d b (i+2):=by
 rw [Sort.scanSorted,show decide (i+1<b)=true from T_ h,Nat.add_sub_cancel,hl];rfl
theorem iv_ {lt:Int ->Int ->Bool} {d:Array Int} {b i:Nat} (hl:lt d[i+1]! d[i]! =true):Sort.scanSorted lt d b (i+1)=i+1:=by
 rw [Sort.scanSorted,Nat.add_sub_cancel,hl];simp
theorem hH_ {lt:Int ->Int ->Bool} {d:Array Int} {b i:Nat} (h: ¬ i<b):Sort.scanSorted lt d b i=i:=by
 rw [Sort.scanSorted,show decide (i<b)=false from F_ h];simp
theorem lv_ {lt:Int ->Int ->Bool} {d:Array Int} {b j:Nat} (h:j+1<b) (hl:lt d[j+1]! d[j]! =true):Sort.shiftUp lt b (j+1) d=Sort.shiftUp lt b (j+2) (Sort.swp d (j+1) j):=by
 rw [Sort.shiftUp,if_pos h,Nat.add_sub_cancel,hl];rfl
theorem lw_ {lt:Int ->Int ->Bool} {d:Array Int} {b j:Nat} (hl:lt d[j+1]! d[j]! =false):Sort.shiftUp lt b (j+1) d=d:=by
 rw [Sort.shiftUp,Nat.add_sub_cancel,hl];simp
theorem j5_ {lt:Int ->Int ->Bool} {d:Array Int} {b j:Nat} (h: ¬ j<b):Sort.shiftUp lt b j d=d:=by rw [Sort.shiftUp,if_neg h]
def pJ_ (P:Array Int ->World ->Prop) (r:Array Int×Bool) (e:Ending) (w':World):Prop:=e= .returned (.bool r.2)/\P r.1 w'
theorem pA_ {w0 wS w:World} {A:Option Addr} {n g m c:Nat} {L:List RunP} {d:Array Int} (cA:Nat) (hS:SW w0 A n L wS g m c d w) (hm:m<=100000) (a b:Nat) (ha:a+1<b) (hb:b<=m):
 Calls Tryz.prog 152 #[.slice (some ⟨g,0,none⟩) m c,.int .i64 (a:Int),.int .i64 (b:Int),.func (.func 82) #[.slice A n cA] #[]] w (pJ_ (SW w0 A n L wS g m c) (Sort.partialInsertionSort (ltR L) d a b)):=by
 have aR:=H_ hS;obtain⟨R,S⟩:=e_ (Sort.partialInsertionSort (ltR L) d a b);rw [S];have aP:Hd (Sort.partialIns (ltR L) a b (5-0) (a+1) d=R):=S;have bN:b<=100000:=by omega
 have bM:a<=100000:=by omega
 have aS:Hd (a+1<=b):=by show _<=_;omega
 clear hS S ha;go_enter Tryz.func152,Tryz.ntmps152
 go_wp2
 go_loopw [9,10] (fun iv jv wr=> ∃ (i j:Nat) (d:Array Int),a<i/\i<=b/\j<=5/\iv= .int .i64 i/\jv= .int .i64 j/\Hd (SW w0 A n L wS g m c d wr)/\Hd (Sort.partialIns (ltR L) a b (5-j) i d=R)) (fun _ jv _=>5-(intOf jv).toNat)
 ·exact⟨a+1,0,d,by omega,aS.o,by omega,by go_num,rfl,aR,aP⟩
 ·clear aR aP aS;obtain⟨i,j,d,l1,l2,l3,rfl,rfl,hS,S⟩:=hrel;obtain⟨wo,rfl⟩: ∃ wo:World,wo=wr:=⟨_,rfl⟩
  by_cases hj:j<5
  ·have bP:(j:Int)<5:=by omega
   obtain⟨s,hs⟩: ∃ s,5-j=s+1:=⟨4-j,by omega⟩
   have bG:Hd (5-(j+1)=s):=by show _=_;omega
   rw [hs,Sort.partialIns] at S
   dsimp only at S
   obtain⟨I,hI⟩:=e_ (Sort.scanSorted (ltR L) d b i);rw [hI] at S;have aB:=iu_ (lt:=ltR L) (d:=d) (n:=b-i) (i:=i) rfl l2;rw [hI] at aB;obtain⟨b1,b2⟩:=aB;replace hI:=H_ hI;clear hs;go_upto_block 2 with fail;go_cut [9] (fun v wx=>v= .int .i64 (I:Nat)/\Hd (SW w0 A n L wS g m c d wx))
   ·go_wp2
    go_loopw [9] (fun iv wr=> ∃ P:Nat,a<P/\P<=b/\iv= .int .i64 P/\Hd (SW w0 A n L wS g m c d wr)/\Hd (Sort.scanSorted (ltR L) d b P=I)) (fun iv _=>b-(intOf iv).toNat)
    ·exact⟨i,l1,l2,rfl,hS,hI⟩
    ·clear hS;obtain⟨P,bO,bL,rfl,hS,aC⟩:=hrel;by_cases aU:P<b
     ·obtain⟨P,rfl⟩: ∃ k,P=k+1:=⟨P-1,by omega⟩
      have bK:(P:Int)+1<(b:Int):=by omega
      have J:P+1<m:=by omega
      have M:P<m:=by omega
      have aG:(P:Int)+1<(m:Int):=by omega
      have aH:(P:Int)<(m:Int):=by omega
      have aE:IntKind.i64.wrap ((P:Int)+1-1)=P:=by rw [IntWalk.i64_in _ (by omega)];omega
      obtain⟨o,ho⟩:=e_ (ordR L d[P+1]! d[P]!);have Q:Hd (∀ {U:World},Below wr.heap.size wr U ->Calls Tryz.prog 82 #[.slice A n cA,.int .i64 d[P+1]!,.int .i64 d[P]!] U (rb_ (.int .i64 o) U)):=fun hU=>by rw [<-ho];exact hS.o.cmp cA J M hU
      have N:ltR L d[P+1]! d[P]! =decide (o<0):=by rw [<-ho];rfl
      clear ho;by_cases aA:o<0
      ·have F:decide (o<0)=true:=T_ aA;have hE:I=P+1:=by rw [<-aC.o];exact iv_ (by rw [N];exact F)
       clear aC N;go_wp2_with fail;have p:Hd (Below wr.heap.size wr wr):=Below.refl _ _
       go_wp2
       refine wb_ wr.heap.size ?_;intro C X
       repeat(go_big_quiet_step (first
        |((intro _;with_reducible rfl))
        |(intro z;have f:=b_ p z;simp only [(hS.o.below f).cell J,(hS.o.below f).cell M,Result.andThen];exact⟨trivial,rfl⟩)
        |(intro z;have f:=b_ p z;(with_reducible refine(Q.o f).mono ?_);rintro e aF ⟨rfl,hw⟩;exact⟨rfl,u_ z hw⟩)))
       intro w9 y;clear X;have D:=H_ (hS.o.below y);clear y p hS
       go_wp2
       go_meet
       exact⟨by rw [hE]<;>first|rfl|go_num,D⟩
      ·have F:decide (o<0)=false:=F_ aA;have hN:Hd (Sort.scanSorted (ltR L) d b (P+1+1)=I):=by show _=_;rw [<-aC.o];exact(it_ aU (by rw [N];exact F)).symm
       clear aC N;go_wp2_with fail;have p:Hd (Below wr.heap.size wr wr):=Below.refl _ _
       go_wp2
       refine wb_ wr.heap.size ?_;intro C X
       repeat(go_big_quiet_step (first
        |((intro _;with_reducible rfl))
        |(intro z;have f:=b_ p z;simp only [(hS.o.below f).cell J,(hS.o.below f).cell M,Result.andThen];exact⟨trivial,rfl⟩)
        |(intro z;have f:=b_ p z;(with_reducible refine(Q.o f).mono ?_);rintro e aF ⟨rfl,hw⟩;exact⟨rfl,u_ z hw⟩)))
       intro w9 y;clear X;have D:=H_ (hS.o.below y);clear y p hS
       go_wp2
       go_roundw
       ·exact⟨P+1+1,by omega,by omega,by go_num,D,hN⟩
       ·simp [intOf]<;>omega
     ·have hE:I=P:=by rw [<-aC.o];exact hH_ aU
      have bJ:decide ((P:Int)<(b:Int))=false:=F_ (by omega);clear aC
      go_wp2
      refine wb_ wr.heap.size ?_;intro C X
      repeat(go_big_quiet_step (first
       |((intro _;with_reducible rfl))
      ))
      intro w9 y;clear X;have D:=H_ (hS.o.below y);clear y hS
      go_wp2
      go_meet
      exact⟨by rw [hE],D⟩
   case' rest=>
    obtain⟨rfl,aQ⟩:=hcut;clear hS;have hS:=aQ;clear aQ
   by_cases aB:I=b
   ·have aN:((I:Int)==(b:Int))=true:=by simp [aB]
    rw [if_pos aB] at S;clear aB
    go_wp2
    go_returns;rw [<-S.o];exact⟨rfl,hS.o⟩
   ·have aN:((I:Int)==(b:Int))=false:=beq_eq_false_iff_ne.2 (by omega);rw [if_neg aB] at S;by_cases aK:b-a<50
    ·have aL:(b:Int)-(a:Int)<50:=by omega
     rw [if_pos aK] at S
     go_wp2
     go_returns;rw [<-S.o];exact⟨rfl,hS.o⟩
    ·have aL: ¬ (b:Int)-(a:Int)<50:=by omega
     rw [if_neg aK] at S;obtain⟨I,rfl⟩: ∃ k,I=k+1:=⟨I-1,by omega⟩
     rw [Nat.add_sub_cancel] at S;have aO:I+1<m:=by omega
     have aM:I<m:=by omega
     have bI:(I:Int)+1<(m:Int):=by omega
     have bH:(I:Int)<(m:Int):=by omega
     have aE:IntKind.i64.wrap ((I:Int)+1-1)=I:=by rw [IntWalk.i64_in _ (by omega)];omega
     go_wp2
     refine wl_ [0,0,1,1,1,0,0,0,0,0,0,0,0,0,0,2,2,2] ?_;intro C X;simp only [af_,Nat.reduceEqDiff, ↓reduceIte]
     repeat(go_big_quiet_step (first
      |(intro _;with_reducible rfl)
      |(intro z;simp only [(hS.o.below z).cell aO,(hS.o.below z).cell aM,Result.andThen];exact⟨trivial,rfl⟩)))
     clear X;intro C' aD
     repeat(go_big_quiet_step (first|(intro _;with_reducible rfl)))
     clear aD;intro wq Z;obtain⟨W1,W2,aY,bA,bC,⟨y9,aZ⟩,bB,bD,G⟩:=(hS.o.below Z).swap aO aM;replace G:=H_ G;clear Z;obtain⟨d1,aT⟩:=e_ (Sort.swp d (I+1) I);rw [aT] at S G;obtain⟨d2,aI⟩:=e_ ((if I+1-a>=2 then Sort.shiftDown (ltR L) I d1 else d1));rw [aI] at S;obtain⟨d3,aJ⟩:=e_ ((if b-(I+1)>=2 then Sort.shiftUp (ltR L) b (I+1+1) d2 else d2));rw [aJ] at S;have T:=H_ aI;have r:=H_ aJ;clear aT aI aJ hS aE;go_upto_if 65 with fail;go_cut [9] (fun v9 wx=>v9= .int .i64 ((I:Int)+1)/\Hd (SW w0 A n L wS g m c d2 wx))
     ·by_cases h2:I+1-a>=2
      ·have bE:(2:Int)<=(I:Int)+1-(a:Int):=by omega
       rw [if_pos h2] at T;obtain⟨bR,rfl⟩: ∃ wo:World,wo=W2:=⟨_,rfl⟩
       clear h2
       go_wp2
       go_loopw [11] (fun jv wr=> ∃ (k:Nat) (d:Array Int),k<=I/\jv= .int .i64 k/\Hd (SW w0 A n L wS g m c d wr)/\Hd (Sort.shiftDown (ltR L) k d=d2)) (fun jv _=>(intOf jv).toNat)
       ·exact⟨I,d1,Nat.le_refl _,by first|rfl|go_num,G,T⟩
       ·clear G T;obtain⟨k,d,hk,rfl,hS,hD⟩:=hrel
        cases k with
        |zero=>
         have hE:Hd (d=d2):=hD.o
         go_wp2
         go_meet
         exact⟨rfl,by rw [<-hE.o];exact hS⟩
        |succ k=>
         have J:k+1<m:=by omega
         have M:k<m:=by omega
         have aG:(k:Int)+1<(m:Int):=by omega
         have aH:(k:Int)<(m:Int):=by omega
         have aE:IntKind.i64.wrap ((k:Int)+1-1)=k:=by rw [IntWalk.i64_in _ (by omega)];omega
         obtain⟨o,ho⟩:=e_ (ordR L d[k+1]! d[k]!);have Q:Hd (∀ {U:World},Below wr.heap.size wr U ->Calls Tryz.prog 82 #[.slice A n cA,.int .i64 d[k+1]!,.int .i64 d[k]!] U (rb_ (.int .i64 o) U)):=fun hU=>by rw [<-ho];exact hS.o.cmp cA J M hU
         have N:ltR L d[k+1]! d[k]! =decide (o<0):=by rw [<-ho];rfl
         clear ho;by_cases aA:o<0
         ·have F:decide (o<0)=true:=T_ aA;have hN:Hd (Sort.shiftDown (ltR L) k (Sort.swp d (k+1) k)=d2):=by show _=_;rw [<-hD.o,Sort.shiftDown,N,F];rfl
          clear hD N;go_wp2_with fail;have p:Hd (Below wr.heap.size wr wr):=Below.refl _ _
          go_wp2
          refine wb_ wr.heap.size ?_;intro C X
          repeat(go_big_quiet_step (first
           |((intro _;with_reducible rfl))
           |(intro z;have f:=b_ p z;simp only [(hS.o.below f).cell J,(hS.o.below f).cell M,Result.andThen];exact⟨trivial,rfl⟩)
           |(intro z;have f:=b_ p z;(with_reducible refine(Q.o f).mono ?_);rintro e aF ⟨rfl,hw⟩;exact⟨rfl,u_ z hw⟩)))
          intro w9 y;clear X;have D:=H_ (hS.o.below y);clear y p hS
          go_wp2
          refine wl_ [0,0,1,1,1,0,0,0,0,0,0,0,0,0,0,2,2,2] ?_;intro C X;simp only [af_,Nat.reduceEqDiff, ↓reduceIte]
          repeat(go_big_quiet_step (first
           |(intro _;with_reducible rfl)
           |(intro z;simp only [(D.o.below z).cell J,(D.o.below z).cell M,Result.andThen];exact⟨trivial,rfl⟩)))
          clear X;intro C' aD
          repeat(go_big_quiet_step (first|(intro _;with_reducible rfl)))
          clear aD;intro wq Z;obtain⟨W1,W2,aY,bA,bC,⟨y9,aZ⟩,bB,bD,G⟩:=(D.o.below Z).swap J M;replace G:=H_ G;clear Z
          go_wp2
          go_roundw
          ·exact⟨k,_,by omega,by go_num,G,hN⟩
          ·simp [intOf]<;>omega
         ·have F:decide (o<0)=false:=F_ aA;have hE:Hd (d=d2):=by show _=_;rw [<-hD.o,Sort.shiftDown,N,F];rfl
          clear hD N;go_wp2_with fail;have p:Hd (Below wr.heap.size wr wr):=Below.refl _ _
          go_wp2
          refine wb_ wr.heap.size ?_;intro C X
          repeat(go_big_quiet_step (first
           |((intro _;with_reducible rfl))
           |(intro z;have f:=b_ p z;simp only [(hS.o.below f).cell J,(hS.o.below f).cell M,Result.andThen];exact⟨trivial,rfl⟩)
           |(intro z;have f:=b_ p z;(with_reducible refine(Q.o f).mono ?_);rintro e aF ⟨rfl,hw⟩;exact⟨rfl,u_ z hw⟩)))
          intro w9 y;clear X;have D:=H_ (hS.o.below y);clear y p hS
          go_wp2
          go_meet
          exact⟨rfl,by rw [<-hE.o];exact D⟩
      ·have bE: ¬ (2:Int)<=(I:Int)+1-(a:Int):=by omega
       rw [if_neg h2] at T
       go_wp2
       go_meet
       exact⟨rfl,by rw [<-T.o];exact G⟩
     case' rest=>
      obtain⟨rfl,hS⟩:=hcut;clear G
     rw [<-bG.o] at S;by_cases h3:b-(I+1)>=2
     ·have bF:(2:Int)<=(b:Int)-((I:Int)+1):=by omega
      rw [if_pos h3] at r;obtain⟨bS,rfl⟩: ∃ wo:World,wo=wc:=⟨_,rfl⟩
      have aV:Hd (I+1+1<=b):=by show _<=_;omega
      clear h3
      go_wp2
      go_loopw [12] (fun jv wr=> ∃ (k:Nat) (d:Array Int),1<=k/\k<=b/\jv= .int .i64 k/\Hd (SW w0 A n L wS g m c d wr)/\Hd (Sort.shiftUp (ltR L) b k d=d3)) (fun jv _=>b-(intOf jv).toNat)
      ·exact⟨I+1+1,d2,by omega,aV.o,by go_num,hS,r⟩
      ·clear hS r aV T;obtain⟨k,d,bQ,hk,rfl,hS,hD⟩:=hrel;by_cases aW:k<b
       ·obtain⟨k,rfl⟩: ∃ q,k=q+1:=⟨k-1,by omega⟩
        have aX:(k:Int)+1<(b:Int):=by omega
        have J:k+1<m:=by omega
        have M:k<m:=by omega
        have aG:(k:Int)+1<(m:Int):=by omega
        have aH:(k:Int)<(m:Int):=by omega
        have aE:IntKind.i64.wrap ((k:Int)+1-1)=k:=by rw [IntWalk.i64_in _ (by omega)];omega
        obtain⟨o,ho⟩:=e_ (ordR L d[k+1]! d[k]!);have Q:Hd (∀ {U:World},Below wr.heap.size wr U ->Calls Tryz.prog 82 #[.slice A n cA,.int .i64 d[k+1]!,.int .i64 d[k]!] U (rb_ (.int .i64 o) U)):=fun hU=>by rw [<-ho];exact hS.o.cmp cA J M hU
        have N:ltR L d[k+1]! d[k]! =decide (o<0):=by rw [<-ho];rfl
        clear ho;by_cases aA:o<0
        ·have F:decide (o<0)=true:=T_ aA;have hN:Hd (Sort.shiftUp (ltR L) b (k+1+1) (Sort.swp d (k+1) k)=d3):=by show _=_;rw [<-hD.o];exact(lv_ aW (by rw [N];exact F)).symm
         clear hD N;go_wp2_with fail;have p:Hd (Below wr.heap.size wr wr):=Below.refl _ _
         go_wp2
         refine wb_ wr.heap.size ?_;intro C X
         repeat(go_big_quiet_step (first
          |((intro _;with_reducible rfl))
          |(intro z;have f:=b_ p z;simp only [(hS.o.below f).cell J,(hS.o.below f).cell M,Result.andThen];exact⟨trivial,rfl⟩)
          |(intro z;have f:=b_ p z;(with_reducible refine(Q.o f).mono ?_);rintro e aF ⟨rfl,hw⟩;exact⟨rfl,u_ z hw⟩)))
         intro w9 y;clear X;have D:=H_ (hS.o.below y);clear y p hS
         go_wp2
         refine wl_ [0,0,1,1,1,0,0,0,0,0,0,0,0,0,0,2,2,2] ?_;intro C X;simp only [af_,Nat.reduceEqDiff, ↓reduceIte]
         repeat(go_big_quiet_step (first
          |(intro _;with_reducible rfl)
          |(intro z;simp only [(D.o.below z).cell J,(D.o.below z).cell M,Result.andThen];exact⟨trivial,rfl⟩)))
         clear X;intro C' aD
         repeat(go_big_quiet_step (first|(intro _;with_reducible rfl)))
         clear aD;intro wq Z;obtain⟨W1,W2,aY,bA,bC,⟨y9,aZ⟩,bB,bD,G⟩:=(D.o.below Z).swap J M;replace G:=H_ G;clear Z
         go_wp2
         go_roundw
         ·exact⟨k+1+1,_,by omega,by omega,by go_num,G,hN⟩
         ·simp [intOf]<;>omega
        ·have F:decide (o<0)=false:=F_ aA;have hE:Hd (d=d3):=by show _=_;rw [<-hD.o];exact(lw_ (by rw [N];exact F)).symm
         clear hD N;go_wp2_with fail;have p:Hd (Below wr.heap.size wr wr):=Below.refl _ _
         go_wp2
         refine wb_ wr.heap.size ?_;intro C X
         repeat(go_big_quiet_step (first
          |((intro _;with_reducible rfl))
          |(intro z;have f:=b_ p z;simp only [(hS.o.below f).cell J,(hS.o.below f).cell M,Result.andThen];exact⟨trivial,rfl⟩)
          |(intro z;have f:=b_ p z;(with_reducible refine(Q.o f).mono ?_);rintro e aF ⟨rfl,hw⟩;exact⟨rfl,u_ z hw⟩)))
         intro w9 y;clear X;have D:=H_ (hS.o.below y);clear y p hS;have Y:Hd (SW w0 A n L wS g m c d3 w9):=by rw [<-hE.o];exact D
         clear aE
         go_wp2
         go_roundw
         ·exact⟨I+1,j+1,d3,by omega,by omega,by omega,by first|rfl|go_num,by go_num,Y,S⟩
         ·simp [intOf]<;>omega
       ·have aX: ¬ (k:Int)<(b:Int):=by omega
        have hE:Hd (d=d3):=by show _=_;rw [<-hD.o];exact(j5_ aW).symm
        have Y:Hd (SW w0 A n L wS g m c d3 wr):=by rw [<-hE.o];exact hS
        clear hD
        go_wp2
        go_roundw
        ·exact⟨I+1,j+1,d3,by omega,by omega,by omega,by first|rfl|go_num,by go_num,Y,S⟩
        ·simp [intOf]<;>omega
     ·have bF: ¬ (2:Int)<=(b:Int)-((I:Int)+1):=by omega
      rw [if_neg h3] at r;have Y:Hd (SW w0 A n L wS g m c d3 wc):=by rw [<-r.o];exact hS
      go_wp2
      go_roundw
      ·exact⟨I+1,j+1,d3,by omega,by omega,by omega,by first|rfl|go_num,by go_num,Y,S⟩
      ·simp [intOf]<;>omega
  ·obtain rfl:j=5:=by omega
   have hE:Hd ((d,false)=R):=S.o
   go_wp2
   go_returns;rw [<-hE.o];exact⟨rfl,hS.o⟩
