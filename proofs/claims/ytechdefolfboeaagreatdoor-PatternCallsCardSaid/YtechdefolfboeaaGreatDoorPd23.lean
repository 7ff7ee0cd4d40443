/- Merged. -/
import Derived.Test.YtechdefolfboeaaGreatDoorPd22
set_option linter.unusedVariables false
set_option linter.unusedSimpArgs false
set_option maxRecDepth 100000
set_option maxHeartbeats 2000000
namespace Go.Proofs.YtechdefolfboeaaGreatDoor
open Go.RowKit B K
def ak_ (M:ab_) (t:Int):List Int:=if t<0 then [] else match M.trips[t.toNat]? with
 |none=>[]
 |some q=>match M.routes[q.route.toNat]? with
  |none=>[]
  |some r=>r.stops
def pN_ (l:List Int) (we:World) (e:Ending) (w':World):Prop:= ∃ A n c,e= .returned (.slice A n c)/\Rd we 1 (numE .i64) A n l/\Below we.heap.size we w'
def pg_ (l:List Int) (w0 we:World) (e:Ending) (w':World):Prop:= ∃ A n c,e= .returned (.slice A n c)/\Rd w0 1 (numE .i64) A n l/\Below we.heap.size we w'
theorem hP_ (M:ab_) (V:WV) (w0 we:World) (hbe:Below w0.heap.size w0 we) (hr:RW w0 M V) (hG: ∀ q∈M.trips,0<=q.route/\q.route<(M.routes.length:Int)) (hf:Few M) (t no:Int) (x1 x2:Option Addr) (m1 m2 d1 d2:Nat):
 Calls Tryz.prog 97 #[wVal M V,.agg #[.int .i64 t,.int .i64 no,.slice x1 m1 d1,.slice x2 m2 d2]] we (pg_ (ak_ M t) w0 we):=by
 obtain⟨a0,a1,a2,a3,a4,a5,aP,aD,aR,aT,aH,n0,n1,n2,n3,n4,n5,nP,nD,a,L,nH,c0,c1,c2,c3,c4,c5,cP,cD,cR,cT,cH⟩:=V;have aS:=H_ hr;have z:M.trips.length=L:=hr.rT.len;have y:M.routes.length=a:=hr.rR.len;have mT:L<=100000:=by rw [<-z];exact hf.sT
 have mR:a<=100000:=by rw [<-y];exact hf.sR
 simp only [wVal];obtain⟨w1,w2,b1,b2,G,J,f,g,p,aA,aB,D,b,d,aJ,aK⟩:=b5_ we 31 47 [.int .i64 M.hz,.slice a0 n0 c0,.slice a1 n1 c1,.slice a2 n2 c2,.slice a3 n3 c3,.slice a4 n4 c4,.slice a5 n5 c5,.slice aP nP cP,.slice aD nD cD,.slice aR a cR,.slice aT L cT,.slice aH nH cH] [.int .i64 t,.int .i64 no,.slice x1 m1 d1,.slice x2 m2 d2];have Z:Hd (Below w0.heap.size w0 w2):=u_ hbe D.o;obtain⟨p0,p1,p2,p3,p4,p5,p6,p7,p8,p9,aG,aU⟩:=c_12 b;have y0:=d.cell 0 rfl;have l1:=b.lt;have l2:=d.lt;have aL:=H_ b;have aM:=H_ d;clear b d aA aB;by_cases i:t<0
 ·have g0:decide (t<0)=true:=T_ i;have N:Hd (ak_ M t=[]):=by show _=_;unfold ak_;rw [if_pos i]
  rw [N.o];clear hr z y;go_enter Tryz.func97,Tryz.ntmps97
  go_wp2
  clear G J f g p;go_returns;exact⟨_,_,_,rfl,⟨rfl,fun h=>absurd h (by omega)⟩,D.o⟩
 ·have g0:decide (t<0)=false:=F_ i;obtain⟨k,rfl⟩:=Int.eq_ofNat_of_zero_le (show 0<=t by omega);by_cases hk:k<L
  ·have g1:decide ((k:Int)>=(L:Int))=false:=F_ (by omega);have aQ:(k:Int)<(L:Int):=by omega
   obtain⟨bT,oT,q,rfl,aE,hq,R⟩:=hr.rT.get hk;have T:=hG q (List.mem_of_getElem? hq);obtain⟨j,hj⟩:=Int.eq_ofNat_of_zero_le T.1;have aO:j<a:=by omega
   obtain⟨r,F⟩: ∃ r,M.routes[j]?=some r:=⟨_,List.getElem?_eq_getElem (by omega)⟩
   obtain⟨bR,oR,rfl,aC,⟨s,n,c,aF,X,_⟩,_⟩:=hr.rR.at_ j r F
   have N:Hd (ak_ M (k:Int)=r.stops):=by
    show _=_;unfold ak_;rw [if_neg (by omega),Int.toNat_natCast,hq];simp only [hj,Int.toNat_natCast,F]
   rw [N.o];have Y:=H_ X;have z0:=R 0 _ rfl;rw [hj,Nat.add_zero] at z0;have aN:(j:Int)<(a:Int):=by omega
   have aI:=H_ z0;have U:=H_ aF;clear hr z y R T hq F X N;go_enter Tryz.func97,Tryz.ntmps97
   go_wp2
   refine wb_ w2.heap.size ?_;intro C hC
   repeat(go_big_quiet_step (first
    |((intro _;with_reducible rfl))
    |(intro e;have S:=b_ Z e;simp only [c_ e l1 p9,c_ e l1 aG,c_ e l2 y0,c_ S aE aI.o,c_ S aC U.o,Result.andThen];exact⟨trivial,rfl⟩)
   ))
   intro w9 P;clear hC;have Q:=h_ D P;clear G J f g p P
   go_wp2
   go_returns;exact⟨_,_,_,rfl,Y.o,Q.o⟩
  ·have g1:decide ((k:Int)>=(L:Int))=true:=T_ (by omega)
   have N:Hd (ak_ M (k:Int)=[]):=by
    show _=_;unfold ak_;rw [if_neg (by omega),Int.toNat_natCast,List.getElem?_eq_none (by omega)]
   rw [N.o];clear hr z y;go_enter Tryz.func97,Tryz.ntmps97
   go_wp2
   clear G J f g p;go_returns;exact⟨_,_,_,rfl,⟨rfl,fun h=>absurd h (by omega)⟩,D.o⟩
theorem kF_ (M:ab_) (V:WV) (we:World) (hr:RW we M V) (hG: ∀ q∈M.trips,0<=q.route/\q.route<(M.routes.length:Int)) (hf:Few M) (t no:Int) (x1 x2:Option Addr) (m1 m2 d1 d2:Nat):
 Calls Tryz.prog 97 #[wVal M V,.agg #[.int .i64 t,.int .i64 no,.slice x1 m1 d1,.slice x2 m2 d2]] we (pN_ (ak_ M t) we):=hP_ M V we we (Below.refl _ _) hr hG hf t no x1 x2 m1 m2 d1 d2
def legB (hz:Int) (arr dep:List Int) (i:Nat):Bool:=match arr[i]?,dep[i]? with
 |some a,some d=>decide (W.chk a=0)&&(decide (d<=hz)&&(decide (a<=d)&&(decide (i=0)||match dep[i-1]? with
  |some p=>decide (p<a)
  |none=>true)))
 |_,_=>true
def aK_ (M:ab_) (t:Int) (arr dep:List Int):Bool:=
 decide ((ak_ M t).length ≠0)&&(decide (arr.length=(ak_ M t).length)&&(decide (dep.length=(ak_ M t).length)&&(decide (arr[0]?=dep[0]?)&&(decide (arr[(ak_ M t).length -1]?=dep[(ak_ M t).length -1]?)&&(List.range (ak_ M t).length).all (legB M.hz arr dep)))))
theorem db_ {M:ab_} (hf:Few M) (t:Int):(ak_ M t).length <=100000:=by
 unfold ak_;split
 ·simp
 ·split
  ·simp
  ·split
   ·simp
   ·rename_i r h;exact(hf.sr r (List.mem_of_getElem? h)).1
theorem d4_ {p:Nat ->Bool} {n i:Nat} (hi:i<n) (h:p i=false):(List.range n).all p=false:=by
 rw [List.all_eq_false];exact⟨i,List.mem_range.2 hi,by rw [h];simp⟩
theorem kf_ {p:Nat ->Bool} {n:Nat} (h: ∀ j,j<n ->p j=true):(List.range n).all p=true:=List.all_eq_true.2 fun j f=>h j (List.mem_range.1 f)
theorem lW_ (M:ab_) (V:WV) (we:World) (hr:RW we M V) (hG: ∀ q∈M.trips,0<=q.route/\q.route<(M.routes.length:Int)) (hf:Few M) (t no:Int) (x1 x2:Option Addr) (m1 m2 d1 d2:Nat) (arr dep:List Int) (ha:Rd we 1 (numE .i64) x1 m1 arr) (hd:Rd we 1 (numE .i64) x2 m2 dep):
 Calls Tryz.prog 58 #[wVal M V,.agg #[.int .i64 t,.int .i64 no,.slice x1 m1 d1,.slice x2 m2 d2]] we (rb_ (.bool (aK_ M t arr dep)) we):=by
 have bU:=H_ (fun w (h:RW w M V)=>kF_ M V w h hG hf t no x1 x2 m1 m2 d1 d2);have bR:=H_ (db_ hf t);obtain⟨a0,a1,a2,a3,a4,a5,aP,aD,aR,aT,aH,n0,n1,n2,n3,n4,n5,nP,nD,nR,nT,nH,c0,c1,c2,c3,c4,c5,cP,cD,cR,cT,cH⟩:=V;have bT:=H_ hr;have aF:=H_ ha;have aA:=H_ hd;simp only [wVal] at*;obtain⟨w1,w2,b1,b2,T,bV,aY,aZ,bA,bP,bQ,bE,B1,B2,cA,cB⟩:=b5_ we 31 47 [.int .i64 M.hz,.slice a0 n0 c0,.slice a1 n1 c1,.slice a2 n2 c2,.slice a3 n3 c3,.slice a4 n4 c4,.slice a5 n5 c5,.slice aP nP cP,.slice aD nD cD,.slice aR nR cR,.slice aT nT cT,.slice aH nH cH] [.int .i64 t,.int .i64 no,.slice x1 m1 d1,.slice x2 m2 d2];obtain⟨p0,p1,p2,p3,p4,p5,p6,p7,p8,p9,bW,bX⟩:=c_12 B1;obtain⟨y0,y1,U,X⟩:=c_4 B2;have bN:=H_ B1;have bO:=H_ B2;clear B1 B2 bP bQ hr hG hf ha hd;go_enter Tryz.func58,Tryz.ntmps58;go_wp2_with fail;refine(bU.o w2 (bT.o.below bE.o)).mono ?_;rintro e w3 ⟨A,n,c,rfl,bD,aI⟩;have aG:Hd ((ak_ M t).length =n):=bD.len
 have h3:=h_ bE aI;have aJ:=H_ (bO.o.below aI);have aX:=H_ (bN.o.below aI);clear T bV aY aZ bA bD aI y0 y1 U X p0 p1 p2 p3 p4 p5 p6 p7 p8 p9 bW bX;have U:=aJ.o.cell 2 rfl;have X:=aJ.o.cell 3 rfl;have r:=aJ.o.lt;by_cases bC:n=0
 ·have e0:((n:Int)==0)=true:=by simp [bC]
  have F:Hd (aK_ M t arr dep=false):=by show _=_;unfold aK_;rw [aG.o,bC];simp
  go_wp2
  refine wb_ w3.heap.size ?_;intro C N
  repeat(go_big_quiet_step (first
   |((intro _;with_reducible rfl))
   |(intro g;have f:=b_ h3 g;simp only [c_ g r U,c_ g r X,Result.andThen];exact⟨trivial,rfl⟩)
  ))
  intro w9 p;clear N;have y:=h_ h3 p;clear p
  go_wp2
  go_returns;exact⟨by rw [F.o];rfl,y.o⟩
 ·obtain⟨k,rfl⟩: ∃ k,n=k+1:=⟨n-1,by omega⟩
  have e0:((k:Int)+1==0)=false:=by simp;omega
  have cF:(k:Int)<(k:Int)+1:=by omega
  have cG:k+1<=100000:=by have:=bR.o;have:=aG.o;omega
  by_cases aN:m1=k+1
  ·subst aN;have e1:((k:Int)+1 !=(k:Int)+1)=false:=by simp
   have la:decide (arr.length=k+1)=true:=T_ aF.o.len;by_cases aO:m2=k+1
   ·subst aO;have ld:decide (dep.length=k+1)=true:=T_ aA.o.len;obtain⟨ba,oa,xa,rfl,P,bF,ga⟩:=aF.o.num (show 0<k+1 by omega);obtain⟨bd,od,xd,rfl,J,bG,gd⟩:=aA.o.num (show 0<k+1 by omega);obtain⟨_,_,ya,aQ,_,bH,ka⟩:=aF.o.num (show k<k+1 by omega);cases aQ;obtain⟨_,_,yd,aS,_,bI,kd⟩:=aA.o.num (show k<k+1 by omega);cases aS;rw [Nat.add_zero] at ga gd
    have aM:Hd (aK_ M t arr dep=(decide (xa=xd)&&(decide (ya=yd)&&(List.range (k+1)).all (legB M.hz arr dep)))):=by
     show _=_;unfold aK_;rw [aG.o,la,ld,bF,bG,Nat.add_sub_cancel,bH,bI];simp
    have aK:=H_ ga;have aL:=H_ gd;have bJ:=H_ ka;have bK:=H_ kd;clear ga gd ka kd la ld bF bG bH bI;by_cases b:xa=xd
    ·have w0:(xa !=xd)=false:=by simp [b]
     replace b:=H_ b;by_cases T:ya=yd
     ·have w1:(ya !=yd)=false:=by simp [T]
      replace T:=H_ T;have Q:Hd (aK_ M t arr dep=(List.range (k+1)).all (legB M.hz arr dep)):=by show _=_;rw [aM.o];simp [b.o,T.o]
      have x0:=aX.o.cell 0 rfl;have l1:=aX.o.lt;have bL:=H_ U;have bM:=H_ X;have bZ:=H_ x0;clear x0
      go_wp2
      refine wb_ w3.heap.size ?_;intro C N
      repeat(go_big_quiet_step (first
       |((intro _;with_reducible rfl))
       |(intro g;have f:=b_ h3 g;simp only [c_ g r U,c_ g r X,c_ f P aK.o,c_ f J aL.o,c_ f P bJ.o,c_ f J bK.o,Result.andThen];exact⟨trivial,rfl⟩)
      ))
      intro w9 p;clear N;have hb:=H_ p;have U:=c_ hb.o r bL.o;have X:=c_ hb.o r bM.o;clear p
      go_wp2
      go_loopw [54] (fun iv wr=> ∃ i:Nat,i<=k+1/\iv= .int .i64 i/\Hd (∀ j,j<i ->legB M.hz arr dep j=true)/\Hd (Below w3.heap.size w3 wr)) (fun iv _=>k+1-(intOf iv).toNat)
      ·exact⟨0,Nat.zero_le _,rfl,fun j hj=>absurd hj (by omega),hb⟩
      ·clear hb U X;obtain⟨i,hi,rfl,G,hb⟩:=hrel;have z:=h_ h3 hb.o;have U:=c_ hb.o r bL.o;have X:=c_ hb.o r bM.o;have x0:=c_ hb.o l1 bZ.o;have Z:=Nat.lt_of_lt_of_le l1 hb.o.size;have L:=Nat.lt_of_lt_of_le r hb.o.size;by_cases Y:i<k+1
       ·have cC:(i:Int)<(k:Int)+1:=by omega
        obtain⟨_,_,a,aQ,_,ha,fa⟩:=aF.o.num Y;cases aQ;obtain⟨_,_,d,aS,_,hd,fd⟩:=aA.o.num Y;cases aS;have R:=H_ fa;have S:=H_ fd;clear fa fd
        cases i with
        |zero=>
         have aB:=R.o;have aC:=S.o;clear R S;rw [Nat.add_zero] at aB aC;have R:=H_ aB;have S:=H_ aC;clear aB aC;by_cases q0:W.chk a=0
         ·have aU:(W.chk a !=0)=false:=by simp [q0]
          by_cases q1:d<=M.hz
          ·have aV:decide (d>M.hz)=false:=F_ (by omega);by_cases q2:a<=d
           ·have aW:decide (a>d)=false:=F_ (by omega)
            have D:Hd (∀ q,q<0+1 ->legB M.hz arr dep q=true):=by
             intro q hq;rcases Nat.lt_or_ge q 0 with h|h
             ·exact G.o q h
             ·obtain rfl:q=0:=by omega
              unfold legB;rw [ha,hd];simp [q0,q1,q2]
            clear G ha hd
            go_wp2
            refine wb_ wr.heap.size ?_;intro C N
            repeat(go_big_quiet_step (first
             |((intro _;with_reducible rfl))
             |(intro g;have f:=b_ z g;simp only [c_ g L U,c_ g L X,c_ g Z x0,c_ f P R.o,c_ f J S.o,Result.andThen];exact⟨trivial,rfl⟩)
             |(intro g;have f:=b_ z g;(with_reducible refine(aX_ _ _).mono ?_);rintro e s ⟨rfl,rfl⟩;exact⟨rfl,g⟩)))
            intro w9 p;clear N;have y:=h_ hb p;clear p hb
            go_wp2
            go_roundw
            ·exact⟨0+1,by omega,by go_num,D,y⟩
            ·simp [intOf]
           ·have aW:decide (a>d)=true:=T_ (by omega);have D:legB M.hz arr dep 0=false:=by unfold legB;rw [ha,hd];simp [q0,q1,q2]
            have F:Hd (aK_ M t arr dep=false):=by show _=_;rw [Q.o];exact d4_ Y D
            clear D G ha hd
            go_wp2
            refine wb_ wr.heap.size ?_;intro C N
            repeat(go_big_quiet_step (first
             |((intro _;with_reducible rfl))
             |(intro g;have f:=b_ z g;simp only [c_ g L U,c_ g L X,c_ g Z x0,c_ f P R.o,c_ f J S.o,Result.andThen];exact⟨trivial,rfl⟩)
             |(intro g;have f:=b_ z g;(with_reducible refine(aX_ _ _).mono ?_);rintro e s ⟨rfl,rfl⟩;exact⟨rfl,g⟩)))
            intro w9 p;clear N;have y:=h_ z p;clear p
            go_wp2
            go_returns;exact⟨by rw [F.o];rfl,y.o⟩
          ·have aV:decide (d>M.hz)=true:=T_ (by omega);have D:legB M.hz arr dep 0=false:=by unfold legB;rw [ha,hd];simp [q0,q1]
           have F:Hd (aK_ M t arr dep=false):=by show _=_;rw [Q.o];exact d4_ Y D
           clear D G ha hd
           go_wp2
           refine wb_ wr.heap.size ?_;intro C N
           repeat(go_big_quiet_step (first
            |((intro _;with_reducible rfl))
            |(intro g;have f:=b_ z g;simp only [c_ g L U,c_ g L X,c_ g Z x0,c_ f P R.o,c_ f J S.o,Result.andThen];exact⟨trivial,rfl⟩)
            |(intro g;have f:=b_ z g;(with_reducible refine(aX_ _ _).mono ?_);rintro e s ⟨rfl,rfl⟩;exact⟨rfl,g⟩)))
           intro w9 p;clear N;have y:=h_ z p;clear p
           go_wp2
           go_returns;exact⟨by rw [F.o];rfl,y.o⟩
         ·have aU:(W.chk a !=0)=true:=by simp [q0]
          have D:legB M.hz arr dep 0=false:=by unfold legB;rw [ha,hd];simp [q0]
          have F:Hd (aK_ M t arr dep=false):=by show _=_;rw [Q.o];exact d4_ Y D
          clear D G ha hd
          go_wp2
          refine wb_ wr.heap.size ?_;intro C N
          repeat(go_big_quiet_step (first
           |((intro _;with_reducible rfl))
           |(intro g;have f:=b_ z g;simp only [c_ g L U,c_ g L X,c_ g Z x0,c_ f P R.o,c_ f J S.o,Result.andThen];exact⟨trivial,rfl⟩)
           |(intro g;have f:=b_ z g;(with_reducible refine(aX_ _ _).mono ?_);rintro e s ⟨rfl,rfl⟩;exact⟨rfl,g⟩)))
          intro w9 p;clear N;have y:=h_ z p;clear p
          go_wp2
          go_returns;exact⟨by rw [F.o];rfl,y.o⟩
        |succ j=>
         obtain⟨_,_,pv,bS,_,hp,fp⟩:=aA.o.num (show j<k+1 by omega);cases bS;have aE:=H_ fp;clear fp;have cE:((j:Int)+1>0):=by omega
         by_cases q0:W.chk a=0
         ·have aU:(W.chk a !=0)=false:=by simp [q0]
          by_cases q1:d<=M.hz
          ·have aV:decide (d>M.hz)=false:=F_ (by omega);by_cases q2:a<=d
           ·have aW:decide (a>d)=false:=F_ (by omega);by_cases q3:pv<a
            ·have bY:decide (a<=pv)=false:=F_ (by omega)
             have D:Hd (∀ q,q<(j+1)+1 ->legB M.hz arr dep q=true):=by
              intro q hq;rcases Nat.lt_or_ge q (j+1) with h|h
              ·exact G.o q h
              ·obtain rfl:q=(j+1):=by omega
               unfold legB;rw [ha,hd];simp [q0,q1,q2,q3,hp]
             clear G ha hd
             go_wp2
             refine wb_ wr.heap.size ?_;intro C N
             repeat(go_big_quiet_step (first
              |((intro _;with_reducible rfl))
              |(intro g;have f:=b_ z g;simp only [c_ g L U,c_ g L X,c_ g Z x0,c_ f P R.o,c_ f J S.o,c_ f J aE.o,Result.andThen];exact⟨trivial,rfl⟩)
              |(intro g;have f:=b_ z g;(with_reducible refine(aX_ _ _).mono ?_);rintro e s ⟨rfl,rfl⟩;exact⟨rfl,g⟩)))
             intro w9 p;clear N;have y:=h_ hb p;clear p hb
             go_wp2
             go_roundw
             ·exact⟨(j+1)+1,by omega,by go_num,D,y⟩
             ·simp [intOf];omega
            ·have bY:decide (a<=pv)=true:=T_ (by omega);have D:legB M.hz arr dep (j+1)=false:=by unfold legB;rw [ha,hd];simp [q0,q1,q2,q3,hp]
             have F:Hd (aK_ M t arr dep=false):=by show _=_;rw [Q.o];exact d4_ Y D
             clear D G ha hd
             go_wp2
             refine wb_ wr.heap.size ?_;intro C N
             repeat(go_big_quiet_step (first
              |((intro _;with_reducible rfl))
              |(intro g;have f:=b_ z g;simp only [c_ g L U,c_ g L X,c_ g Z x0,c_ f P R.o,c_ f J S.o,c_ f J aE.o,Result.andThen];exact⟨trivial,rfl⟩)
              |(intro g;have f:=b_ z g;(with_reducible refine(aX_ _ _).mono ?_);rintro e s ⟨rfl,rfl⟩;exact⟨rfl,g⟩)))
             intro w9 p;clear N;have y:=h_ z p;clear p
             go_wp2
             go_returns;exact⟨by rw [F.o];rfl,y.o⟩
           ·have aW:decide (a>d)=true:=T_ (by omega);have D:legB M.hz arr dep (j+1)=false:=by unfold legB;rw [ha,hd];simp [q0,q1,q2]
            have F:Hd (aK_ M t arr dep=false):=by show _=_;rw [Q.o];exact d4_ Y D
            clear D G ha hd
            go_wp2
            refine wb_ wr.heap.size ?_;intro C N
            repeat(go_big_quiet_step (first
             |((intro _;with_reducible rfl))
             |(intro g;have f:=b_ z g;simp only [c_ g L U,c_ g L X,c_ g Z x0,c_ f P R.o,c_ f J S.o,c_ f J aE.o,Result.andThen];exact⟨trivial,rfl⟩)
             |(intro g;have f:=b_ z g;(with_reducible refine(aX_ _ _).mono ?_);rintro e s ⟨rfl,rfl⟩;exact⟨rfl,g⟩)))
            intro w9 p;clear N;have y:=h_ z p;clear p
            go_wp2
            go_returns;exact⟨by rw [F.o];rfl,y.o⟩
          ·have aV:decide (d>M.hz)=true:=T_ (by omega);have D:legB M.hz arr dep (j+1)=false:=by unfold legB;rw [ha,hd];simp [q0,q1]
           have F:Hd (aK_ M t arr dep=false):=by show _=_;rw [Q.o];exact d4_ Y D
           clear D G ha hd
           go_wp2
           refine wb_ wr.heap.size ?_;intro C N
           repeat(go_big_quiet_step (first
            |((intro _;with_reducible rfl))
            |(intro g;have f:=b_ z g;simp only [c_ g L U,c_ g L X,c_ g Z x0,c_ f P R.o,c_ f J S.o,c_ f J aE.o,Result.andThen];exact⟨trivial,rfl⟩)
            |(intro g;have f:=b_ z g;(with_reducible refine(aX_ _ _).mono ?_);rintro e s ⟨rfl,rfl⟩;exact⟨rfl,g⟩)))
           intro w9 p;clear N;have y:=h_ z p;clear p
           go_wp2
           go_returns;exact⟨by rw [F.o];rfl,y.o⟩
         ·have aU:(W.chk a !=0)=true:=by simp [q0]
          have D:legB M.hz arr dep (j+1)=false:=by unfold legB;rw [ha,hd];simp [q0]
          have F:Hd (aK_ M t arr dep=false):=by show _=_;rw [Q.o];exact d4_ Y D
          clear D G ha hd
          go_wp2
          refine wb_ wr.heap.size ?_;intro C N
          repeat(go_big_quiet_step (first
           |((intro _;with_reducible rfl))
           |(intro g;have f:=b_ z g;simp only [c_ g L U,c_ g L X,c_ g Z x0,c_ f P R.o,c_ f J S.o,c_ f J aE.o,Result.andThen];exact⟨trivial,rfl⟩)
           |(intro g;have f:=b_ z g;(with_reducible refine(aX_ _ _).mono ?_);rintro e s ⟨rfl,rfl⟩;exact⟨rfl,g⟩)))
          intro w9 p;clear N;have y:=h_ z p;clear p
          go_wp2
          go_returns;exact⟨by rw [F.o];rfl,y.o⟩
       ·have bB:Hd (aK_ M t arr dep=true):=by show _=_;rw [Q.o];exact kf_ fun j hj=>G.o j (by omega)
        clear G
        go_wp2
        go_returns;exact⟨by rw [bB.o];rfl,z.o⟩
     ·have w1:(ya !=yd)=true:=by simp [T]
      have F:Hd (aK_ M t arr dep=false):=by show _=_;rw [aM.o];simp [T]
      replace T:=H_ T
      go_wp2
      refine wb_ w3.heap.size ?_;intro C N
      repeat(go_big_quiet_step (first
       |((intro _;with_reducible rfl))
       |(intro g;have f:=b_ h3 g;simp only [c_ g r U,c_ g r X,c_ f P aK.o,c_ f J aL.o,c_ f P bJ.o,c_ f J bK.o,Result.andThen];exact⟨trivial,rfl⟩)
      ))
      intro w9 p;clear N;have y:=h_ h3 p;clear p
      go_wp2
      go_returns;exact⟨by rw [F.o];rfl,y.o⟩
    ·have w0:(xa !=xd)=true:=by simp [b]
     have F:Hd (aK_ M t arr dep=false):=by show _=_;rw [aM.o];simp [b]
     replace b:=H_ b
     go_wp2
     refine wb_ w3.heap.size ?_;intro C N
     repeat(go_big_quiet_step (first
      |((intro _;with_reducible rfl))
      |(intro g;have f:=b_ h3 g;simp only [c_ g r U,c_ g r X,c_ f P aK.o,c_ f J aL.o,Result.andThen];exact⟨trivial,rfl⟩)
     ))
     intro w9 p;clear N;have y:=h_ h3 p;clear p
     go_wp2
     go_returns;exact⟨by rw [F.o];rfl,y.o⟩
   ·have e2:((m2:Int) !=(k:Int)+1)=true:=by simp;omega
    have F:Hd (aK_ M t arr dep=false):=by
     show _=_;unfold aK_;rw [aG.o,show decide (dep.length=k+1)=false from F_ (by rw [aA.o.len];exact aO)];simp
    clear aO
    go_wp2
    refine wb_ w3.heap.size ?_;intro C N
    repeat(go_big_quiet_step (first
     |((intro _;with_reducible rfl))
     |(intro g;have f:=b_ h3 g;simp only [c_ g r U,c_ g r X,Result.andThen];exact⟨trivial,rfl⟩)
    ))
    intro w9 p;clear N;have y:=h_ h3 p;clear p
    go_wp2
    go_returns;exact⟨by rw [F.o];rfl,y.o⟩
  ·have e2:((m1:Int) !=(k:Int)+1)=true:=by simp;omega
   have F:Hd (aK_ M t arr dep=false):=by
    show _=_;unfold aK_;rw [aG.o,show decide (arr.length=k+1)=false from F_ (by rw [aF.o.len];exact aN)];simp
   clear aN
   go_wp2
   refine wb_ w3.heap.size ?_;intro C N
   repeat(go_big_quiet_step (first
    |((intro _;with_reducible rfl))
    |(intro g;have f:=b_ h3 g;simp only [c_ g r U,c_ g r X,Result.andThen];exact⟨trivial,rfl⟩)
   ))
   intro w9 p;clear N;have y:=h_ h3 p;clear p
   go_wp2
   go_returns;exact⟨by rw [F.o];rfl,y.o⟩
