/- Merged. -/
import Derived.Test.YtechdefolfboeaaGreatDoorPo25
import Derived.Test.YtechdefolfboeaaGreatDoorPo31
set_option linter.unusedVariables false
set_option linter.unusedSimpArgs false
set_option maxRecDepth 100000
set_option maxHeartbeats 2000000
namespace Go.Proofs.YtechdefolfboeaaGreatDoor
open Go.RowKit B K
def lightB (L:List RunP):Bool:=decide (L.length≤60)&&L.all fun r=>decide (r.arr.length≤40)&&decide (r.dep.length≤40)
theorem all_stop {α:Type} {L:List α} {f:α→Bool} {i:Nat} {x:α} (h:L[i]?=some x) (hf:f x=false):L.all f=false:=by
 rw [List.all_eq_false];exact⟨x,List.mem_of_getElem? h,by rw [hf];simp⟩
theorem klight_any (A:Option Addr) (n c:Nat) (L:List RunP) (we:World) (hL:RRuns we A n L):Calls Tryz.prog 15 #[.slice A n c] we fun e w'=>e= .returned (.bool (lightB L))∧Below we.heap.size we w':=by
 have hlen:=H_ hL.len;have hLH:=H_ hL;clear hL;by_cases hn:n≤60
 ·have d0:decide ((n:Int)>60)=false:=F_ (by omega);have hb0:Hid (lightB L=L.all fun r=>decide (r.arr.length≤40)&&decide (r.dep.length≤40)):=by show _=_;unfold lightB;rw [hlen.out,T_ hn,Bool.true_and]
  rw [hb0.out];go_enter Tryz.func15,Tryz.ntmps15;go_wp2_with fail;go_loopw [3] (fun iv wr=> ∃ i:Nat,i≤n∧iv= .int .i64 i∧Hid ((L.take i).all (fun r=>decide (r.arr.length≤40)&&decide (r.dep.length≤40))=true)∧wr=we) (fun iv _=>n-(intOf iv).toNat)
  case atStart=>exact⟨0,Nat.zero_le _,rfl,rfl,rfl⟩
  case round=>
   obtain⟨i,hi,rfl,hall,rfl⟩:=hrel;by_cases hin:i<n
   ·have hinI:(i:Int)<(n:Int):=by omega
    obtain⟨b,o,r,A1,n1,c1,A2,n2,c2,rfl,hbs,hx,g0,g1,g2,g3,r1,r2,_,_⟩:=hLH.out.get hin;have l1:=r1.len;have l2:=r2.len;by_cases h1:n1≤40
    ·have d1:decide ((n1:Int)>40)=false:=F_ (by omega);by_cases h2:n2≤40
     ·have d2:decide ((n2:Int)>40)=false:=F_ (by omega);have hnx:Hid ((L.take (i+1)).all (fun r=>decide (r.arr.length≤40)&&decide (r.dep.length≤40))=true):=all_snoc hall.out hx (by rw [l1,l2];simp [h1,h2]);clear hall hx l1 l2 r1 r2;go_wp2_with fail;go_roundw
      case rel=>exact⟨i+1,by omega,by go_num,hnx,trivial⟩
      case measure=>simp [intOf];omega
     ·have d2:decide ((n2:Int)>40)=true:=T_ (by omega);have hno:Hid ((L.all fun r=>decide (r.arr.length≤40)&&decide (r.dep.length≤40))=false):=all_stop hx (by rw [l1,l2];simp [h2]);clear hall hx l1 l2 r1 r2;go_wp2_with fail;go_returns;exact⟨by rw [hno.out];rfl,Below.refl _ _⟩
    ·have d1:decide ((n1:Int)>40)=true:=T_ (by omega);have hno:Hid ((L.all fun r=>decide (r.arr.length≤40)&&decide (r.dep.length≤40))=false):=all_stop hx (by rw [l1,l2];simp [h1]);clear hall hx l1 l2 r1 r2;go_wp2_with fail;go_returns;exact⟨by rw [hno.out];rfl,Below.refl _ _⟩
   ·have hyes:Hid ((L.all fun r=>decide (r.arr.length≤40)&&decide (r.dep.length≤40))=true):=by
     have h:=hall.out
     rwa [List.take_of_length_le (by rw [hlen.out];omega)] at h
    clear hall;go_wp2_with fail;go_returns;exact⟨by rw [hyes.out];rfl,Below.refl _ _⟩
 ·have d0:decide ((n:Int)>60)=true:=T_ (by omega);have hb0:Hid (lightB L=false):=by show _=_;unfold lightB;rw [hlen.out,F_ hn,Bool.false_and]
  rw [hb0.out];go_enter Tryz.func15,Tryz.ntmps15;go_wp2_with fail;go_returns;exact⟨rfl,Below.refl _ _⟩
def fewRB (r:RouteP):Bool:=decide (r.stops.length≤10)&&(decide (r.rides.length≤10)&&decide (r.stays.length≤10))
def fewTB (t:TripP):Bool:= !(decide (t.ev>0)&&(decide (t.fr≥0)&&(decide (t.un>t.fr)&&decide ((t.un-t.fr).tdiv t.ev>30))))
def fewB (M:WorldP):Bool:=decide (M.stops.length≤12)&&(decide (M.nPaths.length≤20)&&(decide (M.nDoors.length≤12)&&(decide (M.nRoutes.length≤8)&&(decide (M.nTrips.length≤10)&&(decide (M.nHazs.length≤12)&&
 (decide (M.paths.length≤20)&&(decide (M.doors.length≤12)&&(decide (M.routes.length≤8)&&(decide (M.trips.length≤10)&&(decide (M.hazs.length≤12)&&(M.routes.all fewRB&&M.trips.all fewTB)))))))))))
theorem few_of {M:WorldP} (h:fewB M=true):Few M:=by
 unfold fewB at h;simp only [Bool.and_eq_true,decide_eq_true_eq] at h;obtain⟨h0,h1,h2,h3,h4,h5,hP,hD,hR,hT,hH,hr,_⟩:=h;refine⟨by omega,by omega,by omega,by omega,by omega,by omega,by omega,by omega,by omega,by omega,by omega,fun r hm=>?_⟩;have:=List.all_eq_true.1 hr r hm;unfold fewRB at this;simp only [Bool.and_eq_true,decide_eq_true_eq] at this;omega
theorem kfew_any (M:WorldP) (V:WV) (we:World) (hr:RW we M V) (hwf:WfM M):Calls Tryz.prog 14 #[wVal M V] we fun e w'=>e= .returned (.bool (fewB M))∧Below we.heap.size we w':=by
 have hwfH:=H_ hwf;have hrH:=H_ hr;obtain⟨a0,a1,a2,a3,a4,a5,aP,aD,aR,aT,aH,n0,n1,n2,n3,n4,n5,nP,nD,nR,nT,nH,c0,c1,c2,c3,c4,c5,cP,cD,cR,cT,cH⟩:=V
 have hW0:Hid (fewB M=(decide (n0≤12)&&(decide (n1≤20)&&(decide (n2≤12)&&(decide (n3≤8)&&(decide (n4≤10)&&(decide (n5≤12)&&(decide (nP≤20)&&(decide (nD≤12)&&(decide (nR≤8)&&(decide (nT≤10)&&(decide (nH≤12)&&(M.routes.all fewRB&&M.trips.all fewTB))))))))))))):=by
  show _=_;unfold fewB
  rw [show M.stops.length=n0 from hr.r0.len,show M.nPaths.length=n1 from hr.r1.len,show M.nDoors.length=n2 from hr.r2.len,show M.nRoutes.length=n3 from hr.r3.len,show M.nTrips.length=n4 from hr.r4.len,show M.nHazs.length=n5 from hr.r5.len,
   show M.paths.length=nP from hr.rP.len,show M.doors.length=nD from hr.rD.len,show M.routes.length=nR from hr.rR.len,show M.trips.length=nT from hr.rT.len,show M.hazs.length=nH from hr.rH.len]
 have hLR:Hid (M.routes.length=nR):=hr.rR.len;have hLT:Hid (M.trips.length=nT):=hr.rT.len;simp only [wVal];obtain⟨w1,b1,hw1,hbE1,hb1,hup,B1,hge1⟩:=enter1 we 31 [.int .i64 M.hz,.slice a0 n0 c0,.slice a1 n1 c1,.slice a2 n2 c2,.slice a3 n3 c3,.slice a4 n4 c4,.slice a5 n5 c5,.slice aP nP cP,.slice aD nD cD,.slice aR nR cR,.slice aT nT cT,.slice aH nH cH];obtain⟨p0,p1,p2,p3,p4,p5,p6,p7,p8,p9,p10,p11⟩:=c_12 B1;have B1H:=H_ B1;have l1:=B1.lt;clear hr hwf hb1 B1;obtain⟨wn,bn,hwn,hbnE,hbwn,Bwn⟩:=box1 w1 24 [.slice a0 n0 c0,.slice a1 n1 c1,.slice a2 n2 c2,.slice a3 n3 c3,.slice a4 n4 c4,.slice a5 n5 c5];have hbN:=h_ hup hbwn;obtain⟨z0,z1,z2,z3,z4,z5⟩:=c_6 Bwn;have y7:=c_ hbwn l1 p7;have y8:=c_ hbwn l1 p8;have y9:=c_ hbwn l1 p9;have y10:=c_ hbwn l1 p10;have y11:=c_ hbwn l1 p11;have lN:Hid (w1.heap.size≤wn.heap.size):=hbwn.size;have hbwnH:=H_ hbwn;clear Bwn hbwn;by_cases h0:n0≤12
 ·have d0:decide ((n0:Int)>12)=false:=F_ (by omega);by_cases h1:n1≤20
  ·have d1:decide ((n1:Int)>20)=false:=F_ (by omega);by_cases h2:n2≤12
   ·have d2:decide ((n2:Int)>12)=false:=F_ (by omega);by_cases h3:n3≤8
    ·have d3:decide ((n3:Int)>8)=false:=F_ (by omega);by_cases h4:n4≤10
     ·have d4:decide ((n4:Int)>10)=false:=F_ (by omega);by_cases h5:n5≤12
      ·have d5:decide ((n5:Int)>12)=false:=F_ (by omega);by_cases h6:nP≤20
       ·have d6:decide ((nP:Int)>20)=false:=F_ (by omega);by_cases h7:nD≤12
        ·have d7:decide ((nD:Int)>12)=false:=F_ (by omega);by_cases h8:nR≤8
         ·have d8:decide ((nR:Int)>8)=false:=F_ (by omega);by_cases h9:nT≤10
          ·have d9:decide ((nT:Int)>10)=false:=F_ (by omega);by_cases h10:nH≤12
           ·have d10:decide ((nH:Int)>12)=false:=F_ (by omega);have hbK:Hid (fewB M=(M.routes.all fewRB&&M.trips.all fewTB)):=by show _=_;rw [hW0.out];simp [h0,h1,h2,h3,h4,h5,h6,h7,h8,h9,h10]
            rw [hbK.out];obtain⟨q,hq⟩: ∃ q,(M.routes.all fewRB&&M.trips.all fewTB)=q:=⟨_,rfl⟩
            have hqH:=H_ hq;rw [hq];clear hq hbK hW0;go_enter Tryz.func14,Tryz.ntmps14;go_upto_region 2 with fail;go_wp2_with fail;go_loopw [4] (fun iv wr=> ∃ i:Nat,i≤nR∧iv= .int .i64 i∧Hid ((M.routes.take i).all fewRB=true)∧wr=wn) (fun iv _=>nR-(intOf iv).toNat)
            case atStart=>exact⟨0,Nat.zero_le _,rfl,rfl,rfl⟩
            case round=>
             obtain⟨i,hi,rfl,hall,rfl⟩:=hrel;by_cases hin:i<nR
             ·have hinI:(i:Int)<(nR:Int):=by omega
              obtain⟨b,o,r,rfl,hbs,hx,⟨s1,m1,d1,f1,q1,_⟩,⟨s2,m2,d2,f2,q2,_⟩,⟨s3,m3,d3,f3,q3,_⟩⟩:=hrH.out.rR.get hin;replace f1:=c_ hbN.out hbs f1;replace f2:=c_ hbN.out hbs f2;replace f3:=c_ hbN.out hbs f3;have e1:=H_ q1.len;have e2:=H_ q2.len;have e3:=H_ q3.len;clear q1 q2 q3 hbs;by_cases g1:m1≤10
              ·have e1d:decide ((m1:Int)>10)=false:=F_ (by omega);by_cases g2:m2≤10
               ·have e2d:decide ((m2:Int)>10)=false:=F_ (by omega);by_cases g3:m3≤10
                ·have e3d:decide ((m3:Int)>10)=false:=F_ (by omega);have hnx:Hid ((M.routes.take (i+1)).all fewRB=true):=all_snoc hall.out hx (by unfold fewRB;rw [e1.out,e2.out,e3.out];simp [g1,g2,g3]);clear hall hx e1 e2 e3;go_wp2_with fail;go_roundw
                 case rel=>exact⟨i+1,by omega,by go_num,hnx,trivial⟩
                 case measure=>simp [intOf];omega
                ·have e3d:decide ((m3:Int)>10)=true:=T_ (by omega);have hlf:fewRB r=false:=by unfold fewRB;rw [e1.out,e2.out,e3.out];simp [g1,g2,g3]
                 have hq0:Hid (q=false):=by show _=_;rw [←hqH.out,all_stop hx hlf];rfl
                 clear hall hx hlf hqH e1 e2 e3;go_wp2_with fail;clear hw1 hbE1 hwn hbnE;go_returns;exact⟨by rw [hq0.out];rfl,hbN.out⟩
               ·have e2d:decide ((m2:Int)>10)=true:=T_ (by omega);have hlf:fewRB r=false:=by unfold fewRB;rw [e1.out,e2.out,e3.out];simp [g1,g2]
                have hq0:Hid (q=false):=by show _=_;rw [←hqH.out,all_stop hx hlf];rfl
                clear hall hx hlf hqH e1 e2 e3;go_wp2_with fail;clear hw1 hbE1 hwn hbnE;go_returns;exact⟨by rw [hq0.out];rfl,hbN.out⟩
              ·have e1d:decide ((m1:Int)>10)=true:=T_ (by omega);have hlf:fewRB r=false:=by unfold fewRB;rw [e1.out,e2.out,e3.out];simp [g1]
               have hq0:Hid (q=false):=by show _=_;rw [←hqH.out,all_stop hx hlf];rfl
               clear hall hx hlf hqH e1 e2 e3;go_wp2_with fail;clear hw1 hbE1 hwn hbnE;go_returns;exact⟨by rw [hq0.out];rfl,hbN.out⟩
             ·have hyes:Hid (M.routes.all fewRB=true):=by
               have h:=hall.out
               rwa [List.take_of_length_le (by rw [hLR.out];omega)] at h
              have hqT:Hid (M.trips.all fewTB=q):=by have:=hqH.out;rw [hyes.out,Bool.true_and] at this;exact this
              clear hall hyes hqH;go_wp2_with fail;clear hw1 hbE1 hwn hbnE;go_loopw [5] (fun iv wr=> ∃ i:Nat,i≤nT∧iv= .int .i64 i∧Hid ((M.trips.take i).all fewTB=true)∧Hid (Below w1.heap.size w1 wr)) (fun iv _=>nT-(intOf iv).toNat)
              case atStart=>exact⟨0,Nat.zero_le _,rfl,rfl,hbwnH⟩
              case round=>
               clear y7 y8 y9 y10 y11;obtain⟨i,hi,rfl,hall,hb⟩:=hrel;have hbr:=h_ hup hb.out;have y10:=c_ hb.out l1 (B1H.out.cell 10 rfl);by_cases hin:i<nT
               ·have hinI:(i:Int)<(nT:Int):=by omega
                obtain⟨b,o,t,rfl,hbs,hx,hc0⟩:=hrH.out.rT.get hin;obtain⟨tr,tf,te,tu⟩:=t;have f0:=c_ hbr.out hbs (hc0 0 _ rfl);have f1:=c_ hbr.out hbs (hc0 1 _ rfl);have f2:=c_ hbr.out hbs (hc0 2 _ rfl);have f3:=c_ hbr.out hbs (hc0 3 _ rfl);simp only [Nat.add_zero] at f0;have hwt:=hwfH.out _ (List.mem_of_getElem? hx);have bf:=wf_bounds hwt.2.1;have be:=wf_bounds hwt.2.2.1;have bu:=wf_bounds hwt.2.2.2;simp only at bf be bu;clear hc0 hbs hwt;obtain⟨wa,ba,hwa,hbaE,hbwa,Bwa⟩:=box1 wr 53 [.int .i64 tr,.int .i64 tf,.int .i64 te,.int .i64 tu];obtain⟨q0,q1,q2,q3⟩:=c_4 Bwa;have hbz:=h_ hb hbwa;clear Bwa hbwa;by_cases g1:te>0
                ·have d1:decide (te>0)=true:=T_ g1;by_cases g2:tf≥0
                 ·have d2:decide (tf≥0)=true:=T_ g2;by_cases g3:tu>tf
                  ·have d3:decide (tu>tf)=true:=T_ g3;have hne:te≠0:=by omega
                   have hne':(te==0)=false:=by simp [hne]
                   have hw1':IntKind.i64.wrap (tu-tf)=tu-tf:=IntWalk.i64_in _ (by omega)
                   have hdb:0≤(tu-tf).tdiv te∧(tu-tf).tdiv te≤tu-tf:=by
                    rw [Int.tdiv_eq_ediv_of_nonneg (by omega)];exact⟨Int.ediv_nonneg (by omega) (by omega),Int.ediv_le_self _ (by omega)⟩
                   have hw2':IntKind.i64.wrap ((tu-tf).tdiv te)=(tu-tf).tdiv te:=IntWalk.i64_in _ (by omega);by_cases g4:(tu-tf).tdiv te>30
                   ·have d4:decide ((tu-tf).tdiv te>30)=true:=T_ g4;have hlf:fewTB ⟨tr,tf,te,tu⟩=false:=by unfold fewTB;simp [g1,g2,g3,g4]
                    have hq0:Hid (q=false):=by show _=_;rw [←hqT.out,all_stop hx hlf]
                    have hby:=h_ hup hbz.out;clear hall hx hlf hqT;go_wp2_with fail;clear hwa hbaE;go_returns;exact⟨by rw [hq0.out];rfl,hby.out⟩
                   ·have d4:decide ((tu-tf).tdiv te>30)=false:=F_ g4;have hlf:fewTB ⟨tr,tf,te,tu⟩=true:=by unfold fewTB;simp [g1,g2,g3,g4]
                    have hnx:Hid ((M.trips.take (i+1)).all fewTB=true):=all_snoc hall.out hx hlf;clear hall hx hlf;go_wp2_with fail;go_roundw
                    case rel=>exact⟨i+1,by omega,by go_num,hnx,hbz⟩
                    case measure=>simp [intOf];omega
                  ·have d3:decide (tu>tf)=false:=F_ g3;have hlf:fewTB ⟨tr,tf,te,tu⟩=true:=by unfold fewTB;simp [g1,g2,g3]
                   have hnx:Hid ((M.trips.take (i+1)).all fewTB=true):=all_snoc hall.out hx hlf;clear hall hx hlf;go_wp2_with fail;go_roundw
                   case rel=>exact⟨i+1,by omega,by go_num,hnx,hbz⟩
                   case measure=>simp [intOf];omega
                 ·have d2:decide (tf≥0)=false:=F_ g2;have hlf:fewTB ⟨tr,tf,te,tu⟩=true:=by unfold fewTB;simp [g1,g2]
                  have hnx:Hid ((M.trips.take (i+1)).all fewTB=true):=all_snoc hall.out hx hlf;clear hall hx hlf;go_wp2_with fail;go_roundw
                  case rel=>exact⟨i+1,by omega,by go_num,hnx,hbz⟩
                  case measure=>simp [intOf];omega
                ·have d1:decide (te>0)=false:=F_ g1;have hlf:fewTB ⟨tr,tf,te,tu⟩=true:=by unfold fewTB;simp [g1]
                 have hnx:Hid ((M.trips.take (i+1)).all fewTB=true):=all_snoc hall.out hx hlf;clear hall hx hlf;go_wp2_with fail;go_roundw
                 case rel=>exact⟨i+1,by omega,by go_num,hnx,hbz⟩
                 case measure=>simp [intOf];omega
               ·have hyes:Hid (M.trips.all fewTB=true):=by
                 have h:=hall.out
                 rwa [List.take_of_length_le (by rw [hLT.out];omega)] at h
                have hq1:Hid (q=true):=by show _=_;rw [←hqT.out];exact hyes.out
                clear hall hyes hqT;go_wp2_with fail;go_returns;exact⟨by rw [hq1.out];rfl,hbr.out⟩
           ·have d10:decide ((nH:Int)>12)=true:=T_ (by omega);have hno:Hid (fewB M=false):=by show _=_;rw [hW0.out];simp [h10]
            rw [hno.out];clear hno hW0;go_enter Tryz.func14,Tryz.ntmps14;go_upto_region 2 with fail;go_wp2_with fail;clear hw1 hbE1 hwn hbnE;go_returns;exact⟨rfl,hbN.out⟩
          ·have d9:decide ((nT:Int)>10)=true:=T_ (by omega);have hno:Hid (fewB M=false):=by show _=_;rw [hW0.out];simp [h9]
           rw [hno.out];clear hno hW0;go_enter Tryz.func14,Tryz.ntmps14;go_upto_region 2 with fail;go_wp2_with fail;clear hw1 hbE1 hwn hbnE;go_returns;exact⟨rfl,hbN.out⟩
         ·have d8:decide ((nR:Int)>8)=true:=T_ (by omega);have hno:Hid (fewB M=false):=by show _=_;rw [hW0.out];simp [h8]
          rw [hno.out];clear hno hW0;go_enter Tryz.func14,Tryz.ntmps14;go_upto_region 2 with fail;go_wp2_with fail;clear hw1 hbE1 hwn hbnE;go_returns;exact⟨rfl,hbN.out⟩
        ·have d7:decide ((nD:Int)>12)=true:=T_ (by omega);have hno:Hid (fewB M=false):=by show _=_;rw [hW0.out];simp [h7]
         rw [hno.out];clear hno hW0;go_enter Tryz.func14,Tryz.ntmps14;go_upto_region 2 with fail;go_wp2_with fail;clear hw1 hbE1 hwn hbnE;go_returns;exact⟨rfl,hbN.out⟩
       ·have d6:decide ((nP:Int)>20)=true:=T_ (by omega);have hno:Hid (fewB M=false):=by show _=_;rw [hW0.out];simp [h6]
        rw [hno.out];clear hno hW0;go_enter Tryz.func14,Tryz.ntmps14;go_upto_region 2 with fail;go_wp2_with fail;clear hw1 hbE1 hwn hbnE;go_returns;exact⟨rfl,hbN.out⟩
      ·have d5:decide ((n5:Int)>12)=true:=T_ (by omega);have hno:Hid (fewB M=false):=by show _=_;rw [hW0.out];simp [h5]
       rw [hno.out];clear hno hW0;go_enter Tryz.func14,Tryz.ntmps14;go_upto_region 2 with fail;go_wp2_with fail;clear hw1 hbE1 hwn hbnE;go_returns;exact⟨rfl,hbN.out⟩
     ·have d4:decide ((n4:Int)>10)=true:=T_ (by omega);have hno:Hid (fewB M=false):=by show _=_;rw [hW0.out];simp [h4]
      rw [hno.out];clear hno hW0;go_enter Tryz.func14,Tryz.ntmps14;go_upto_region 2 with fail;go_wp2_with fail;clear hw1 hbE1 hwn hbnE;go_returns;exact⟨rfl,hbN.out⟩
    ·have d3:decide ((n3:Int)>8)=true:=T_ (by omega);have hno:Hid (fewB M=false):=by show _=_;rw [hW0.out];simp [h3]
     rw [hno.out];clear hno hW0;go_enter Tryz.func14,Tryz.ntmps14;go_upto_region 2 with fail;go_wp2_with fail;clear hw1 hbE1 hwn hbnE;go_returns;exact⟨rfl,hbN.out⟩
   ·have d2:decide ((n2:Int)>12)=true:=T_ (by omega);have hno:Hid (fewB M=false):=by show _=_;rw [hW0.out];simp [h2]
    rw [hno.out];clear hno hW0;go_enter Tryz.func14,Tryz.ntmps14;go_upto_region 2 with fail;go_wp2_with fail;clear hw1 hbE1 hwn hbnE;go_returns;exact⟨rfl,hbN.out⟩
  ·have d1:decide ((n1:Int)>20)=true:=T_ (by omega);have hno:Hid (fewB M=false):=by show _=_;rw [hW0.out];simp [h1]
   rw [hno.out];clear hno hW0;go_enter Tryz.func14,Tryz.ntmps14;go_upto_region 2 with fail;go_wp2_with fail;clear hw1 hbE1 hwn hbnE;go_returns;exact⟨rfl,hbN.out⟩
 ·have d0:decide ((n0:Int)>12)=true:=T_ (by omega);have hno:Hid (fewB M=false):=by show _=_;rw [hW0.out];simp [h0]
  rw [hno.out];clear hno hW0;go_enter Tryz.func14,Tryz.ntmps14;go_upto_region 2 with fail;go_wp2_with fail;clear hw1 hbE1 hwn hbnE;go_returns;exact⟨rfl,hbN.out⟩
theorem errC_iff {M:WorldP} {L:List RunP} (hn: ¬ 16384<L.length):errC M L=0↔goodB nameB M=true∧ ∀ r∈L,fitsR M r=true:=by
 unfold errC;rw [if_neg hn]
 cases goodB nameB M with
 |false=>simp
 |true=>
  cases hq:L.all (fitsR M) with
  |true=>simp only [Bool.and_self,if_true,true_iff,true_and];exact List.all_eq_true.1 hq
  |false=>
   simp only [Bool.and_false,Bool.false_eq_true,if_false,true_and];constructor
   ·intro h;cases h
   ·intro h;rw [List.all_eq_true.2 h] at hq;cases hq
structure OkC (M:WorldP) (L:List RunP):Prop where
 good:GoodW M
 fit: ∀ r∈L,FitR M r
theorem okC_of {M:WorldP} {L:List RunP} (hn: ¬ 16384<L.length) (h:errC M L=0):OkC M L:=by
 obtain⟨h1,h2⟩:=(errC_iff hn).1 h;exact⟨goodW_of h1,fun r hr=>fitR_of (h2 r hr)⟩
