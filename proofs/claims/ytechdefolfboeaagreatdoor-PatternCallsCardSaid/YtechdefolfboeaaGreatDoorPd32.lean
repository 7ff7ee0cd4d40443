/- Merged. -/
import Derived.Test.YtechdefolfboeaaGreatDoorPd25
import Derived.Test.YtechdefolfboeaaGreatDoorPd31
set_option linter.unusedVariables false
set_option linter.unusedSimpArgs false
set_option maxRecDepth 100000
set_option maxHeartbeats 2000000
namespace Go.Proofs.YtechdefolfboeaaGreatDoor
open Go.RowKit B K
def dp_ (L:List RunP):Bool:=decide (L.length<=60)&&L.all fun r=>decide (r.arr.length<=40)&&decide (r.dep.length<=40)
theorem dv_ {α:Type} {L:List α} {f:α ->Bool} {i:Nat} {x:α} (h:L[i]?=some x) (hf:f x=false):L.all f=false:=by
 rw [List.all_eq_false];exact⟨x,List.mem_of_getElem? h,by rw [hf];simp⟩
theorem kR_ (A:Option Addr) (n c:Nat) (L:List RunP) (we:World) (hL:be_ we A n L):Calls Tryz.prog 15 #[.slice A n c] we (rb_ (.bool (dp_ L)) we):=by
 have g:=H_ hL.len;have J:=H_ hL;clear hL;by_cases U:n<=60
 ·have X:decide ((n:Int)>60)=false:=F_ (by omega);have j:Hd (dp_ L=L.all fun r=>decide (r.arr.length<=40)&&decide (r.dep.length<=40)):=by show _=_;unfold dp_;rw [g.o,T_ U,Bool.true_and]
  rw [j.o];go_enter Tryz.func15,Tryz.ntmps15
  go_wp2
  go_loopw [3] (fun P wr=> ∃ i:Nat,i<=n/\P= .int .i64 i/\Hd ((L.take i).all (fun r=>decide (r.arr.length<=40)&&decide (r.dep.length<=40))=true)/\wr=we) (fun P _=>n-(intOf P).toNat)
  ·exact⟨0,Nat.zero_le _,rfl,rfl,rfl⟩
  ·obtain⟨i,hi,rfl,f,rfl⟩:=hrel;by_cases M:i<n
   ·have aA:(i:Int)<(n:Int):=by omega
    obtain⟨b,o,r,A1,Q,c1,A2,R,c2,rfl,aB,q,g0,g1,g2,g3,F,G,_,_⟩:=J.o.get M;have y:=F.len;have z:=G.len;by_cases S:Q<=40
    ·have Y:decide ((Q:Int)>40)=false:=F_ (by omega);by_cases T:R<=40
     ·have Z:decide ((R:Int)>40)=false:=F_ (by omega);have N:Hd ((L.take (i+1)).all (fun r=>decide (r.arr.length<=40)&&decide (r.dep.length<=40))=true):=br_ f.o q (by rw [y,z];simp [S,T]);clear f q y z F G
      go_wp2
      go_roundw
      ·exact⟨i+1,by omega,by go_num,N,trivial⟩
      ·simp [intOf];omega
     ·have Z:decide ((R:Int)>40)=true:=T_ (by omega);have p:Hd ((L.all fun r=>decide (r.arr.length<=40)&&decide (r.dep.length<=40))=false):=dv_ q (by rw [y,z];simp [T]);clear f q y z F G
      go_wp2
      go_returns;exact⟨by rw [p.o];rfl,Below.refl _ _⟩
    ·have Y:decide ((Q:Int)>40)=true:=T_ (by omega);have p:Hd ((L.all fun r=>decide (r.arr.length<=40)&&decide (r.dep.length<=40))=false):=dv_ q (by rw [y,z];simp [S]);clear f q y z F G
     go_wp2
     go_returns;exact⟨by rw [p.o];rfl,Below.refl _ _⟩
   ·have D:Hd ((L.all fun r=>decide (r.arr.length<=40)&&decide (r.dep.length<=40))=true):=by
     have h:=f.o
     rwa [List.take_of_length_le (by rw [g.o];omega)] at h
    clear f
    go_wp2
    go_returns;exact⟨by rw [D.o];rfl,Below.refl _ _⟩
 ·have X:decide ((n:Int)>60)=true:=T_ (by omega);have j:Hd (dp_ L=false):=by show _=_;unfold dp_;rw [g.o,F_ U,Bool.false_and]
  rw [j.o];go_enter Tryz.func15,Tryz.ntmps15
  go_wp2
  go_returns;exact⟨rfl,Below.refl _ _⟩
def cU_ (r:ba_):Bool:=decide (r.stops.length<=10)&&(decide (r.rides.length<=10)&&decide (r.stays.length<=10))
def b1_ (t:bM_):Bool:= !(decide (t.ev>0)&&(decide (t.fr>=0)&&(decide (t.un>t.fr)&&decide ((t.un-t.fr).tdiv t.ev>30))))
def fewB (M:ab_):Bool:=decide (M.stops.length<=12)&&(decide (M.nPaths.length<=20)&&(decide (M.nDoors.length<=12)&&(decide (M.nRoutes.length<=8)&&(decide (M.nTrips.length<=10)&&(decide (M.nHazs.length<=12)&&
 (decide (M.paths.length<=20)&&(decide (M.doors.length<=12)&&(decide (M.routes.length<=8)&&(decide (M.trips.length<=10)&&(decide (M.hazs.length<=12)&&(M.routes.all cU_&&M.trips.all b1_)))))))))))
theorem pn_ {M:ab_} (h:fewB M=true):Few M:=by
 unfold fewB at h;simp only [Bool.and_eq_true,decide_eq_true_eq] at h;obtain⟨h0,h1,h2,h3,h4,h5,hP,hD,hR,hT,hH,g,_⟩:=h;refine⟨by omega,by omega,by omega,by omega,by omega,by omega,by omega,by omega,by omega,by omega,by omega,fun r f=>?_⟩;have:=List.all_eq_true.1 g r f;unfold cU_ at this;simp only [Bool.and_eq_true,decide_eq_true_eq] at this;omega
theorem nN_ (M:ab_) (V:WV) (we:World) (hr:RW we M V) (hwf:WfM M):Calls Tryz.prog 14 #[wVal M V] we (rb_ (.bool (fewB M)) we):=by
 have aN:=H_ hwf;have aM:=H_ hr;obtain⟨a0,a1,a2,a3,a4,a5,aP,aD,aR,aT,aH,n0,n1,n2,n3,n4,n5,nP,nD,c,d,nH,c0,c1,c2,c3,c4,c5,cP,cD,cR,cT,cH⟩:=V
 have j:Hd (fewB M=(decide (n0<=12)&&(decide (n1<=20)&&(decide (n2<=12)&&(decide (n3<=8)&&(decide (n4<=10)&&(decide (n5<=12)&&(decide (nP<=20)&&(decide (nD<=12)&&(decide (c<=8)&&(decide (d<=10)&&(decide (nH<=12)&&(M.routes.all cU_&&M.trips.all b1_))))))))))))):=by
  show _=_;unfold fewB
  rw [show M.stops.length=n0 from hr.r0.len,show M.nPaths.length=n1 from hr.r1.len,show M.nDoors.length=n2 from hr.r2.len,show M.nRoutes.length=n3 from hr.r3.len,show M.nTrips.length=n4 from hr.r4.len,show M.nHazs.length=n5 from hr.r5.len,
   show M.paths.length=nP from hr.rP.len,show M.doors.length=nD from hr.rD.len,show M.routes.length=c from hr.rR.len,show M.trips.length=d from hr.rT.len,show M.hazs.length=nH from hr.rH.len]
 have aX:Hd (M.routes.length=c):=hr.rR.len;have aY:Hd (M.trips.length=d):=hr.rT.len;simp only [wVal];obtain⟨w1,b1,D,n,aZ,aE,B1,bH⟩:=cm_ we 31 [.int .i64 M.hz,.slice a0 n0 c0,.slice a1 n1 c1,.slice a2 n2 c2,.slice a3 n3 c3,.slice a4 n4 c4,.slice a5 n5 c5,.slice aP nP cP,.slice aD nD cD,.slice aR c cR,.slice aT d cT,.slice aH nH cH];obtain⟨p0,p1,p2,p3,p4,p5,p6,p7,p8,p9,bE,bF⟩:=c_12 B1;have aQ:=H_ B1;have l1:=B1.lt;clear hr hwf aZ B1;obtain⟨wn,bn,F,p,G,aG⟩:=box1 w1 24 [.slice a0 n0 c0,.slice a1 n1 c1,.slice a2 n2 c2,.slice a3 n3 c3,.slice a4 n4 c4,.slice a5 n5 c5];have z:=h_ aE G;obtain⟨z0,z1,z2,z3,z4,z5⟩:=c_6 aG;have y7:=c_ G l1 p7;have y8:=c_ G l1 p8;have y9:=c_ G l1 p9;have aO:=c_ G l1 bE;have bG:=c_ G l1 bF;have lN:Hd (w1.heap.size<=wn.heap.size):=G.size;have aB:=H_ G;clear aG G;by_cases h0:n0<=12
 ·have d0:decide ((n0:Int)>12)=false:=F_ (by omega);by_cases h1:n1<=20
  ·have d1:decide ((n1:Int)>20)=false:=F_ (by omega);by_cases h2:n2<=12
   ·have d2:decide ((n2:Int)>12)=false:=F_ (by omega);by_cases h3:n3<=8
    ·have d3:decide ((n3:Int)>8)=false:=F_ (by omega);by_cases h4:n4<=10
     ·have d4:decide ((n4:Int)>10)=false:=F_ (by omega);by_cases h5:n5<=12
      ·have d5:decide ((n5:Int)>12)=false:=F_ (by omega);by_cases h6:nP<=20
       ·have d6:decide ((nP:Int)>20)=false:=F_ (by omega);by_cases h7:nD<=12
        ·have d7:decide ((nD:Int)>12)=false:=F_ (by omega);by_cases h8:c<=8
         ·have d8:decide ((c:Int)>8)=false:=F_ (by omega);by_cases h9:d<=10
          ·have d9:decide ((d:Int)>10)=false:=F_ (by omega);by_cases aI:nH<=12
           ·have aS:decide ((nH:Int)>12)=false:=F_ (by omega);have aJ:Hd (fewB M=(M.routes.all cU_&&M.trips.all b1_)):=by show _=_;rw [j.o];simp [h0,h1,h2,h3,h4,h5,h6,h7,h8,h9,aI]
            rw [aJ.o];obtain⟨q,hq⟩:=e_ ((M.routes.all cU_&&M.trips.all b1_));have S:=H_ hq;rw [hq];clear hq aJ j;go_enter Tryz.func14,Tryz.ntmps14;go_upto_region 2 with fail
            go_wp2
            go_loopw [4] (fun iv wr=> ∃ i:Nat,i<=c/\iv= .int .i64 i/\Hd ((M.routes.take i).all cU_=true)/\wr=wn) (fun iv _=>c-(intOf iv).toNat)
            ·exact⟨0,Nat.zero_le _,rfl,rfl,rfl⟩
            ·obtain⟨i,hi,rfl,g,rfl⟩:=hrel;by_cases aC:i<c
             ·have aL:(i:Int)<(c:Int):=by omega
              obtain⟨b,o,r,rfl,L,N,⟨s1,m1,d1,f1,q1,_⟩,⟨s2,m2,d2,f2,q2,_⟩,⟨s3,m3,d3,f3,q3,_⟩⟩:=aM.o.rR.get aC;replace f1:=c_ z.o L f1;replace f2:=c_ z.o L f2;replace f3:=c_ z.o L f3;have e1:=H_ q1.len;have e2:=H_ q2.len;have e3:=H_ q3.len;clear q1 q2 q3 L;by_cases X:m1<=10
              ·have aU:decide ((m1:Int)>10)=false:=F_ (by omega);by_cases e:m2<=10
               ·have aV:decide ((m2:Int)>10)=false:=F_ (by omega);by_cases g3:m3<=10
                ·have aW:decide ((m3:Int)>10)=false:=F_ (by omega);have P:Hd ((M.routes.take (i+1)).all cU_=true):=br_ g.o N (by unfold cU_;rw [e1.o,e2.o,e3.o];simp [X,e,g3]);clear g N e1 e2 e3
                 go_wp2
                 go_roundw
                 ·exact⟨i+1,by omega,by go_num,P,trivial⟩
                 ·simp [intOf];omega
                ·have aW:decide ((m3:Int)>10)=true:=T_ (by omega);have y:cU_ r=false:=by unfold cU_;rw [e1.o,e2.o,e3.o];simp [X,e,g3]
                 have U:Hd (q=false):=by show _=_;rw [<-S.o,dv_ N y];rfl
                 clear g N y S e1 e2 e3
                 go_wp2
                 clear D n F p;go_returns;exact⟨by rw [U.o];rfl,z.o⟩
               ·have aV:decide ((m2:Int)>10)=true:=T_ (by omega);have y:cU_ r=false:=by unfold cU_;rw [e1.o,e2.o,e3.o];simp [X,e]
                have U:Hd (q=false):=by show _=_;rw [<-S.o,dv_ N y];rfl
                clear g N y S e1 e2 e3
                go_wp2
                clear D n F p;go_returns;exact⟨by rw [U.o];rfl,z.o⟩
              ·have aU:decide ((m1:Int)>10)=true:=T_ (by omega);have y:cU_ r=false:=by unfold cU_;rw [e1.o,e2.o,e3.o];simp [X]
               have U:Hd (q=false):=by show _=_;rw [<-S.o,dv_ N y];rfl
               clear g N y S e1 e2 e3
               go_wp2
               clear D n F p;go_returns;exact⟨by rw [U.o];rfl,z.o⟩
             ·have T:Hd (M.routes.all cU_=true):=by
               have h:=g.o
               rwa [List.take_of_length_le (by rw [aX.o];omega)] at h
              have k:Hd (M.trips.all b1_=q):=by have:=S.o;rw [T.o,Bool.true_and] at this;exact this
              clear g T S
              go_wp2
              clear D n F p;go_loopw [5] (fun iv wr=> ∃ i:Nat,i<=d/\iv= .int .i64 i/\Hd ((M.trips.take i).all b1_=true)/\Hd (Below w1.heap.size w1 wr)) (fun iv _=>d-(intOf iv).toNat)
              ·exact⟨0,Nat.zero_le _,rfl,rfl,aB⟩
              ·clear y7 y8 y9 aO bG;obtain⟨i,hi,rfl,g,hb⟩:=hrel;have Y:=h_ aE hb.o;have aO:=c_ hb.o l1 (aQ.o.cell 10 rfl);by_cases aC:i<d
               ·have aL:(i:Int)<(d:Int):=by omega
                obtain⟨b,o,t,rfl,L,N,a⟩:=aM.o.rT.get aC;obtain⟨tr,J,R,Q⟩:=t;have f0:=c_ Y.o L (a 0 _ rfl);have f1:=c_ Y.o L (a 1 _ rfl);have f2:=c_ Y.o L (a 2 _ rfl);have f3:=c_ Y.o L (a 3 _ rfl);simp only [Nat.add_zero] at f0;have s:=aN.o _ (List.mem_of_getElem? N);have bf:=dA_ s.2.1;have be:=dA_ s.2.2.1;have bu:=dA_ s.2.2.2;simp only at bf be bu;clear a L s;obtain⟨wa,ba,bD,aK,aA,aF⟩:=box1 wr 53 [.int .i64 tr,.int .i64 J,.int .i64 R,.int .i64 Q];obtain⟨q0,q1,q2,q3⟩:=c_4 aF;have Z:=h_ hb aA;clear aF aA;by_cases X:R>0
                ·have d1:decide (R>0)=true:=T_ X;by_cases e:J>=0
                 ·have d2:decide (J>=0)=true:=T_ e;by_cases g3:Q>J
                  ·have d3:decide (Q>J)=true:=T_ g3;have bB:R≠0:=by omega
                   have bI:(R==0)=false:=by simp [bB]
                   have bJ:IntKind.i64.wrap (Q-J)=Q-J:=IntWalk.i64_in _ (by omega)
                   have bL:0<=(Q-J).tdiv R/\(Q-J).tdiv R<=Q-J:=by
                    rw [Int.tdiv_eq_ediv_of_nonneg (by omega)];exact⟨Int.ediv_nonneg (by omega) (by omega),Int.ediv_le_self _ (by omega)⟩
                   have bK:IntKind.i64.wrap ((Q-J).tdiv R)=(Q-J).tdiv R:=IntWalk.i64_in _ (by omega);by_cases g4:(Q-J).tdiv R>30
                   ·have d4:decide ((Q-J).tdiv R>30)=true:=T_ g4;have y:b1_ ⟨tr,J,R,Q⟩=false:=by unfold b1_;simp [X,e,g3,g4]
                    have U:Hd (q=false):=by show _=_;rw [<-k.o,dv_ N y]
                    have bA:=h_ aE Z.o;clear g N y k
                    go_wp2
                    clear bD aK;go_returns;exact⟨by rw [U.o];rfl,bA.o⟩
                   ·have d4:decide ((Q-J).tdiv R>30)=false:=F_ g4;have y:b1_ ⟨tr,J,R,Q⟩=true:=by unfold b1_;simp [X,e,g3,g4]
                    have P:Hd ((M.trips.take (i+1)).all b1_=true):=br_ g.o N y;clear g N y
                    go_wp2
                    go_roundw
                    ·exact⟨i+1,by omega,by go_num,P,Z⟩
                    ·simp [intOf];omega
                  ·have d3:decide (Q>J)=false:=F_ g3;have y:b1_ ⟨tr,J,R,Q⟩=true:=by unfold b1_;simp [X,e,g3]
                   have P:Hd ((M.trips.take (i+1)).all b1_=true):=br_ g.o N y;clear g N y
                   go_wp2
                   go_roundw
                   ·exact⟨i+1,by omega,by go_num,P,Z⟩
                   ·simp [intOf];omega
                 ·have d2:decide (J>=0)=false:=F_ e;have y:b1_ ⟨tr,J,R,Q⟩=true:=by unfold b1_;simp [X,e]
                  have P:Hd ((M.trips.take (i+1)).all b1_=true):=br_ g.o N y;clear g N y
                  go_wp2
                  go_roundw
                  ·exact⟨i+1,by omega,by go_num,P,Z⟩
                  ·simp [intOf];omega
                ·have d1:decide (R>0)=false:=F_ X;have y:b1_ ⟨tr,J,R,Q⟩=true:=by unfold b1_;simp [X]
                 have P:Hd ((M.trips.take (i+1)).all b1_=true):=br_ g.o N y;clear g N y
                 go_wp2
                 go_roundw
                 ·exact⟨i+1,by omega,by go_num,P,Z⟩
                 ·simp [intOf];omega
               ·have T:Hd (M.trips.all b1_=true):=by
                 have h:=g.o
                 rwa [List.take_of_length_le (by rw [aY.o];omega)] at h
                have bC:Hd (q=true):=by show _=_;rw [<-k.o];exact T.o
                clear g T k
                go_wp2
                go_returns;exact⟨by rw [bC.o];rfl,Y.o⟩
           ·have aS:decide ((nH:Int)>12)=true:=T_ (by omega);have f:Hd (fewB M=false):=by show _=_;rw [j.o];simp [aI]
            rw [f.o];clear f j;go_enter Tryz.func14,Tryz.ntmps14;go_upto_region 2 with fail
            go_wp2
            clear D n F p;go_returns;exact⟨rfl,z.o⟩
          ·have d9:decide ((d:Int)>10)=true:=T_ (by omega);have f:Hd (fewB M=false):=by show _=_;rw [j.o];simp [h9]
           rw [f.o];clear f j;go_enter Tryz.func14,Tryz.ntmps14;go_upto_region 2 with fail
           go_wp2
           clear D n F p;go_returns;exact⟨rfl,z.o⟩
         ·have d8:decide ((c:Int)>8)=true:=T_ (by omega);have f:Hd (fewB M=false):=by show _=_;rw [j.o];simp [h8]
          rw [f.o];clear f j;go_enter Tryz.func14,Tryz.ntmps14;go_upto_region 2 with fail
          go_wp2
          clear D n F p;go_returns;exact⟨rfl,z.o⟩
        ·have d7:decide ((nD:Int)>12)=true:=T_ (by omega);have f:Hd (fewB M=false):=by show _=_;rw [j.o];simp [h7]
         rw [f.o];clear f j;go_enter Tryz.func14,Tryz.ntmps14;go_upto_region 2 with fail
         go_wp2
         clear D n F p;go_returns;exact⟨rfl,z.o⟩
       ·have d6:decide ((nP:Int)>20)=true:=T_ (by omega);have f:Hd (fewB M=false):=by show _=_;rw [j.o];simp [h6]
        rw [f.o];clear f j;go_enter Tryz.func14,Tryz.ntmps14;go_upto_region 2 with fail
        go_wp2
        clear D n F p;go_returns;exact⟨rfl,z.o⟩
      ·have d5:decide ((n5:Int)>12)=true:=T_ (by omega);have f:Hd (fewB M=false):=by show _=_;rw [j.o];simp [h5]
       rw [f.o];clear f j;go_enter Tryz.func14,Tryz.ntmps14;go_upto_region 2 with fail
       go_wp2
       clear D n F p;go_returns;exact⟨rfl,z.o⟩
     ·have d4:decide ((n4:Int)>10)=true:=T_ (by omega);have f:Hd (fewB M=false):=by show _=_;rw [j.o];simp [h4]
      rw [f.o];clear f j;go_enter Tryz.func14,Tryz.ntmps14;go_upto_region 2 with fail
      go_wp2
      clear D n F p;go_returns;exact⟨rfl,z.o⟩
    ·have d3:decide ((n3:Int)>8)=true:=T_ (by omega);have f:Hd (fewB M=false):=by show _=_;rw [j.o];simp [h3]
     rw [f.o];clear f j;go_enter Tryz.func14,Tryz.ntmps14;go_upto_region 2 with fail
     go_wp2
     clear D n F p;go_returns;exact⟨rfl,z.o⟩
   ·have d2:decide ((n2:Int)>12)=true:=T_ (by omega);have f:Hd (fewB M=false):=by show _=_;rw [j.o];simp [h2]
    rw [f.o];clear f j;go_enter Tryz.func14,Tryz.ntmps14;go_upto_region 2 with fail
    go_wp2
    clear D n F p;go_returns;exact⟨rfl,z.o⟩
  ·have d1:decide ((n1:Int)>20)=true:=T_ (by omega);have f:Hd (fewB M=false):=by show _=_;rw [j.o];simp [h1]
   rw [f.o];clear f j;go_enter Tryz.func14,Tryz.ntmps14;go_upto_region 2 with fail
   go_wp2
   clear D n F p;go_returns;exact⟨rfl,z.o⟩
 ·have d0:decide ((n0:Int)>12)=true:=T_ (by omega);have f:Hd (fewB M=false):=by show _=_;rw [j.o];simp [h0]
  rw [f.o];clear f j;go_enter Tryz.func14,Tryz.ntmps14;go_upto_region 2 with fail
  go_wp2
  clear D n F p;go_returns;exact⟨rfl,z.o⟩
theorem ny_ {M:ab_} {L:List RunP} (hn: ¬ 16384<L.length):errC M L=0↔cu_ aN_ M=true/\ ∀ r∈L,bH_ M r=true:=by
 unfold errC;rw [if_neg hn]
 cases cu_ aN_ M with
 |false=>simp
 |true=>
  cases f:L.all (bH_ M) with
  |true=>simp only [Bool.and_self,if_true,true_iff,true_and];exact List.all_eq_true.1 f
  |false=>
   simp only [Bool.and_false,Bool.false_eq_true,if_false,true_and];constructor
   ·intro h;cases h
   ·intro h;rw [List.all_eq_true.2 h] at f;cases f
theorem h2_ {L:List RunP} (h:dp_ L=true):L.length<=60:=by
 unfold dp_ at h;rw [Bool.and_eq_true] at h;exact of_decide_eq_true h.1
structure OkC (M:ab_) (L:List RunP):Prop where
 good:gJ_ M
 fit: ∀ r∈L,FitR M r
theorem i2_ {M:ab_} {L:List RunP} (hn: ¬ 16384<L.length) (h:errC M L=0):OkC M L:=by
 obtain⟨f,g⟩:=(ny_ hn).1 h;exact⟨gw_ f,fun r j=>kj_ (g r j)⟩
