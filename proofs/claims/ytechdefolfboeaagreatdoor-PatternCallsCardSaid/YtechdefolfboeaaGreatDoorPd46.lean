/- Merged. -/
import Derived.Test.YtechdefolfboeaaGreatDoorPd36
import Derived.Test.YtechdefolfboeaaGreatDoorPd45
set_option linter.unusedVariables false
set_option linter.unusedSimpArgs false
set_option maxRecDepth 100000
set_option maxHeartbeats 8000000
namespace Go.Proofs.YtechdefolfboeaaGreatDoor
open Go.RowKit B K
theorem ji_ (A:Option Addr) (n c:Nat) (L:List RunP) (we:World) (hL:be_ we A n L) (hn:n<=100000) (hD:f1_ L) (a b:Int) (ha:a∈natI L.length) (hb:b∈natI L.length):
 Calls Tryz.prog 92 #[.slice A n c,.int .i64 a,.int .i64 b] we (rb_ (.bool (ltR L a b)) we):=by
 have U:=H_ (eX_ (L:=L) (a:=a) (b:=b));have aD:=hL.len;have J:=b8_ ha;have M:=b8_ hb;obtain⟨e,rfl⟩:=Int.eq_ofNat_of_zero_le (aY_.1 ha).1;obtain⟨i,rfl⟩:=Int.eq_ofNat_of_zero_le (aY_.1 hb).1;have aF:e<n:=by have:=(aY_.1 ha).2;omega
 have aG:i<n:=by have:=(aY_.1 hb).2;omega
 rw [Int.toNat_natCast] at J M;obtain⟨bL,oL,r,x1,xm,xc,x2,xn,xd,rfl,g,hr,g0,g1,g2,g3,_,rd,_,_⟩:=hL.get aF;obtain⟨aL,aO,s,y1,ym,yc,y2,yn,yd,hA,_,hs,k0,k1,k2,k3,_,sd,_,_⟩:=hL.get aG;cases hA;rw [Option.some.inj (J.symm.trans hr),Option.some.inj (M.symm.trans hs)] at U;have S:=hD r (List.mem_of_getElem? hr);have T:=hD s (List.mem_of_getElem? hs);obtain⟨bd,od,k,rfl,Q,F,gd⟩:=rd.num (show 0<xn by rw [<-rd.len];exact S);obtain⟨be,oe,ds,rfl,R,G,ge⟩:=sd.num (show 0<yn by rw [<-sd.len];exact T);have aM:0<xn:=by rw [<-rd.len];exact S
 have aN:0<yn:=by rw [<-sd.len];exact T
 have e1:dep0 r=k:=by unfold dep0;rw [F];rfl
 have e2:dep0 s=ds:=by unfold dep0;rw [G];rfl
 rw [e1,e2] at U;obtain⟨rt,Y⟩:=e_ r.trip;obtain⟨st,d⟩:=e_ s.trip;obtain⟨rn,X⟩:=e_ r.no;obtain⟨sn,Z⟩:=e_ s.no;rw [Y,d,X,Z] at U;rw [Y] at g0;rw [d] at k0;rw [X] at g1;rw [Z] at k1;have aH:(e:Int)<(n:Int):=by omega
 have aI:(i:Int)<(n:Int):=by omega
 have aJ:(0:Int)<(xn:Int):=by omega
 have aK:(0:Int)<(yn:Int):=by omega
 simp only [Nat.zero_mul,Nat.add_zero] at gd ge;have h0:Hd (Below we.heap.size we we):=Below.refl _ _;clear hL hD hr hs ha hb S T J M rd sd F G e1 e2 Y d X Z g2 k2 aD;go_enter Tryz.func92,Tryz.ntmps92;by_cases hd:k=ds
 ·subst hd;have c1:(k !=k)=false:=by simp
  go_wp2
  refine wb_ we.heap.size ?_;intro C p
  repeat(go_big_quiet_step (first
   |((intro _;with_reducible rfl))
   |(intro q;have f:=b_ h0 q;simp only [c_ f g g3,c_ f g k3,c_ f Q gd,c_ f R ge,Result.andThen];exact⟨trivial,rfl⟩)
  ))
  intro w1 y;clear p;have N:=h_ h0 y;clear y;by_cases ht:rt=st
  ·subst ht;have c2:(rt !=rt)=false:=by simp
   go_wp2
   refine wb_ w1.heap.size ?_;intro C p
   repeat(go_big_quiet_step (first
    |((intro _;with_reducible rfl))
    |(intro q;have f:=b_ N q;simp only [c_ f g g0,c_ f g k0,Result.andThen];exact⟨trivial,rfl⟩)
   ))
   intro w3 z;clear p;have P:=h_ N z;clear z;by_cases aE:rn=sn
   ·subst aE;have c3:(rn !=rn)=false:=by simp
    have j:Hd (ltR L (e:Int) (i:Int)=decide (e<i)):=by
     show _=_;rw [Bool.eq_iff_iff,U.o,decide_eq_true_eq];(try simp only [true_and]);omega
    go_wp2
    refine wb_ w3.heap.size ?_;intro C p
    repeat(go_big_quiet_step (first
     |((intro _;with_reducible rfl))
     |(intro q;have f:=b_ P q;simp only [c_ f g g1,c_ f g k1,Result.andThen];exact⟨trivial,rfl⟩)
    ))
    intro w5 D;clear p;have h5:=h_ P D;clear D
    go_wp2
    go_returns;exact⟨am_ j.o.symm,h5.o⟩
   ·have c3:(rn !=sn)=true:=by simp [aE]
    have j:Hd (ltR L (e:Int) (i:Int)=decide (rn<sn)):=by
     show _=_;rw [Bool.eq_iff_iff,U.o,decide_eq_true_eq];(try simp only [true_and]);omega
    go_wp2
    refine wb_ w3.heap.size ?_;intro C p
    repeat(go_big_quiet_step (first
     |((intro _;with_reducible rfl))
     |(intro q;have f:=b_ P q;simp only [c_ f g g1,c_ f g k1,Result.andThen];exact⟨trivial,rfl⟩)
    ))
    intro w5 D;clear p;have h5:=h_ P D;clear D
    go_wp2
    refine wb_ w5.heap.size ?_;intro C p
    repeat(go_big_quiet_step (first
     |((intro _;with_reducible rfl))
     |(intro q;have f:=b_ h5 q;simp only [c_ f g g1,c_ f g k1,Result.andThen];exact⟨trivial,rfl⟩)
    ))
    intro w6 aC;clear p;have h6:=h_ h5 aC;clear aC
    go_wp2
    go_returns;exact⟨am_ j.o.symm,h6.o⟩
  ·have c2:(rt !=st)=true:=by simp [ht]
   have j:Hd (ltR L (e:Int) (i:Int)=decide (rt<st)):=by
    show _=_;rw [Bool.eq_iff_iff,U.o,decide_eq_true_eq];(try simp only [true_and]);omega
   go_wp2
   refine wb_ w1.heap.size ?_;intro C p
   repeat(go_big_quiet_step (first
    |((intro _;with_reducible rfl))
    |(intro q;have f:=b_ N q;simp only [c_ f g g0,c_ f g k0,Result.andThen];exact⟨trivial,rfl⟩)
   ))
   intro w3 z;clear p;have P:=h_ N z;clear z
   go_wp2
   refine wb_ w3.heap.size ?_;intro C p
   repeat(go_big_quiet_step (first
    |((intro _;with_reducible rfl))
    |(intro q;have f:=b_ P q;simp only [c_ f g g0,c_ f g k0,Result.andThen];exact⟨trivial,rfl⟩)
   ))
   intro w4 aB;clear p;have h4:=h_ P aB;clear aB
   go_wp2
   go_returns;exact⟨am_ j.o.symm,h4.o⟩
 ·have c1:(k !=ds)=true:=by simp [hd]
  have j:Hd (ltR L (e:Int) (i:Int)=decide (k<ds)):=by
   show _=_;rw [Bool.eq_iff_iff,U.o,decide_eq_true_eq];(try simp only [true_and]);omega
  go_wp2
  refine wb_ we.heap.size ?_;intro C p
  repeat(go_big_quiet_step (first
   |((intro _;with_reducible rfl))
   |(intro q;have f:=b_ h0 q;simp only [c_ f g g3,c_ f g k3,c_ f Q gd,c_ f R ge,Result.andThen];exact⟨trivial,rfl⟩)
  ))
  intro w1 y;clear p;have N:=h_ h0 y;clear y
  go_wp2
  refine wb_ w1.heap.size ?_;intro C p
  repeat(go_big_quiet_step (first
   |((intro _;with_reducible rfl))
   |(intro q;have f:=b_ N q;simp only [c_ f g g3,c_ f g k3,c_ f Q gd,c_ f R ge,Result.andThen];exact⟨trivial,rfl⟩)
  ))
  intro w2 aA;clear p;have h2:=h_ N aA;clear aA
  go_wp2
  go_returns;exact⟨am_ j.o.symm,h2.o⟩
theorem oQ_ {hz:Int} {arr dep:List Int} {i:Nat} {a d:Int} (hh:hz<=1099511627776) (ha:arr[i]?=some a) (hd:dep[i]?=some d):
 legB hz arr dep i=true↔ ¬ a<0/\ ¬ hz<d/\ ¬ d<a/\(i=0∨ ∀ p,dep[i-1]?=some p -> ¬ a<=p):=by
 unfold legB;rw [ha,hd];simp only [Bool.and_eq_true,decide_eq_true_eq,Bool.or_eq_true];constructor
 ·rintro⟨j,n,q,f⟩;have:=W.chk_zero j;refine⟨by omega,by omega,by omega,?_⟩;rcases f with f|f
  ·exact .inl f
  ·refine .inr fun p g=>?_;rw [g] at f;have:=of_decide_eq_true f;omega
 ·rintro⟨j,n,q,f⟩;refine⟨W.chk_ok ⟨by omega,by omega⟩,by omega,by omega,?_⟩;rcases f with f|f
  ·exact .inl f
  ·right;split
   ·rename_i p g;have:=f p g;exact T_ (by omega)
   ·rfl
theorem mV_ (M:ab_) (V:WV) (we:World) (hr:RW we M V) (hG: ∀ q∈M.trips,0<=q.route/\q.route<(M.routes.length:Int)) (hf:Few M) (hz:M.hz<=1099511627776) (t no:Int) (x1 x2:Option Addr) (m1 m2 d1 d2:Nat) (arr dep:List Int) (ha:Rd we 1 (numE .i64) x1 m1 arr) (hd:Rd we 1 (numE .i64) x2 m2 dep):
 Calls Tryz.prog 78 #[wVal M V,.agg #[.int .i64 t,.int .i64 no,.slice x1 m1 d1,.slice x2 m2 d2]] we (rb_ (.bool (aK_ M t arr dep)) we):=by
 obtain⟨a0,a1,a2,a3,a4,a5,aP,aD,aR,aT,aH,n0,n1,n2,n3,n4,n5,nP,nD,nR,nT,nH,c0,c1,c2,c3,c4,c5,cP,cD,cR,cT,cH⟩:=V;have cA:=H_ hr;have aG:=H_ ha;have Z:=H_ hd;have cV:=H_ (db_ hf t);have cW:=H_ hz;have cI:=H_ hG;have dH:=H_ hf;simp only [wVal] at*;have bC:M.trips.length=nT:=hr.rT.len;have bW:M.routes.length=nR:=hr.rR.len;have bX:=H_ bC;have aU:=H_ bW;obtain⟨w1,w2,b1,b2,aB,aC,P,Q,R,cK,cL,aM,B1,B2,dD,dE⟩:=b5_ we 31 47 [.int .i64 M.hz,.slice a0 n0 c0,.slice a1 n1 c1,.slice a2 n2 c2,.slice a3 n3 c3,.slice a4 n4 c4,.slice a5 n5 c5,.slice aP nP cP,.slice aD nD cD,.slice aR nR cR,.slice aT nT cT,.slice aH nH cH] [.int .i64 t,.int .i64 no,.slice x1 m1 d1,.slice x2 m2 d2];obtain⟨p0,p1,p2,p3,p4,p5,p6,p7,p8,p9,cC,cY⟩:=c_12 B1;obtain⟨q0,S,e,q3⟩:=c_4 B2;have bF:=H_ B1;have bG:=H_ B2;have dQ:nT<=100000:=by rw [<-bC];exact hf.sT
 clear B1 B2 cK cL hr hG hf ha hd hz bC bW;go_enter Tryz.func78,Tryz.ntmps78;by_cases aS:t<0
 ·have F:Hd (aK_ M t arr dep=false):=by show _=_;unfold aK_ ak_;rw [if_pos aS];rfl
  have cO:decide (t<0)=true:=T_ aS
  go_wp2
  clear aB aC P Q R;go_returns;exact⟨am_ F.o.symm,aM.o⟩
 ·obtain⟨Y,rfl⟩:=Int.eq_ofNat_of_zero_le (show 0<=t by omega);have cO:decide ((Y:Int)<0)=false:=F_ (by omega);by_cases cS:Y<nT
  ·have bN:decide (nT<=Y)=false:=F_ (by omega);have dG:(Y:Int)<(nT:Int):=by omega
   obtain⟨bT,oT,q,rfl,cN,hq,bJ⟩:=cA.o.rT.get cS;have bZ:=cI.o q (List.mem_of_getElem? hq);obtain⟨jr,aY⟩:=Int.eq_ofNat_of_zero_le bZ.1;have cQ:jr<nR:=by rw [<-aU.o];omega
   have dF:(jr:Int)<(nR:Int):=by omega
   obtain⟨rt,bE⟩: ∃ rt,M.routes[jr]?=some rt:=⟨_,List.getElem?_eq_getElem (by rw [aU.o];exact cQ)⟩
   obtain⟨bR,oR,rfl,cM,⟨sS,nS,dS,s0,rS,_⟩,_⟩:=cA.o.rR.at_ jr rt bE
   have bH:ak_ M (Y:Int)=rt.stops:=by
    unfold ak_;rw [if_neg aS,Int.toNat_natCast,hq];simp only;rw [aY,Int.toNat_natCast,bE]
   have z0:=bJ 0 _ rfl;rw [aY,Nat.add_zero] at z0;have hl:Hd ((ak_ M (Y:Int)).length =nS):=by show _=_;rw [bH];exact rS.len
   have dR:nS<=100000:=by rw [<-hl.o];exact cV.o
   clear bJ hq bZ aY bE bH rS;go_wp2_with fail;have l1:=bF.o.lt;have l2:=bG.o.lt
   go_wp2
   refine wb_ w2.heap.size ?_;intro C T
   repeat(go_big_quiet_step (first
    |((intro _;with_reducible rfl))
    |(intro n;have f:=b_ aM n;simp only [c_ n l1 p9,c_ n l1 cC,c_ n l2 q0,c_ f cN z0,c_ f cM s0,Result.andThen];exact⟨trivial,rfl⟩)
   ))
   intro w9 aQ;clear T;clear l1 l2;have h9:=h_ aM aQ;have c1:=H_ (bF.o.below aQ);have c2:=H_ (bG.o.below aQ);clear aQ p0 p1 p2 p3 p4 p5 p6 p7 p8 p9 cC cY q0 S e q3 z0 s0;have v0:=c1.o.cell 0 rfl;have y2:=c2.o.cell 2 rfl;have y3:=c2.o.cell 3 rfl;have l1:=c1.o.lt;have l2:=c2.o.lt;by_cases bU:m1=nS
   ·subst bU;by_cases bV:m2=m1
    ·subst bV;by_cases bS:m2<1
     ·have F:Hd (aK_ M (Y:Int) arr dep=false):=by show _=_;unfold aK_;rw [hl.o,show decide (m2≠0)=false from F_ (by omega)];rfl
      have g1:((m2:Int) !=(m2:Int))=false:=by simp
      have g2:decide (m2<1)=true:=T_ bS;have g3:decide ((m2:Int)<1)=true:=T_ (by omega)
      go_wp2
      clear aB aC P Q R;go_returns;exact⟨am_ F.o.symm,h9.o⟩
     ·have g1:((m2:Int) !=(m2:Int))=false:=by simp
      have g2:decide (m2<1)=false:=F_ bS;have g3:decide ((m2:Int)<1)=false:=F_ (by omega);obtain⟨k,rfl⟩: ∃ k,m2=k+1:=⟨m2-1,by omega⟩
      have aZ:Hd (aK_ M (Y:Int) arr dep=(decide (arr[0]?=dep[0]?)&&(decide (arr[k]?=dep[k]?)&&(List.range (k+1)).all (legB M.hz arr dep)))):=by
       show _=_;unfold aK_;rw [hl.o,show decide (k+1≠0)=true from T_ (by omega),aG.o.len,Z.o.len,T_ rfl,Nat.add_sub_cancel];rfl
      have aJ:Hd (∀ j,j<0 ->legB M.hz arr dep j=true):=fun j hj=>absurd hj (by omega);have bI:Hd (Below w9.heap.size w9 w9):=Below.refl _ _;have cZ:=H_ v0;have dA:=H_ y2;have dB:=H_ y3
      go_wp2
      clear aB aC P Q R v0 y2 y3;go_loopw [6] (fun iv wr=> ∃ i:Nat,i<=k+1/\iv= .int .i64 i/\Hd (Below w9.heap.size w9 wr)/\Hd (∀ j,j<i ->legB M.hz arr dep j=true)) (fun iv _=>k+1-(intOf iv).toNat)
      ·exact⟨0,Nat.zero_le _,rfl,bI,aJ⟩
      ·clear bI aJ;obtain⟨i,hi,rfl,hb,U⟩:=hrel;have D:=h_ h9 hb.o;have v0:=c_ hb.o l1 cZ.o;have y2:=c_ hb.o l2 dA.o;have y3:=c_ hb.o l2 dB.o;have aE:=Nat.lt_of_lt_of_le l1 hb.o.size;have y:=Nat.lt_of_lt_of_le l2 hb.o.size;by_cases bB:i<k+1
       ·have dJ:(i:Int)<(k:Int)+1:=by omega
        have dK:(i:Int)<((k+1:Nat):Int):=by omega
        obtain⟨bA,oA,a,rfl,N,b,ga⟩:=aG.o.num bB;obtain⟨bD,oD,d,rfl,J,c,gd⟩:=Z.o.num bB;have s:=oQ_ cW.o b c;by_cases aA:legB M.hz arr dep i=true
        ·obtain⟨S,e,q3,q4⟩:=s.1 aA;have e1:decide (a<0)=false:=F_ S;have e2:decide (M.hz<d)=false:=F_ e;have e3:decide (d<a)=false:=F_ q3
         have aI:Hd (∀ j,j<i+1 ->legB M.hz arr dep j=true):=fun j hj=>by
          rcases Nat.lt_or_ge j i with h|h
          ·exact U.o j h
          ·obtain rfl:j=i:=by omega
           exact aA
         clear s aA S e q3 U;rcases Nat.eq_zero_or_pos i with bK|bK
         ·subst bK;simp only [Nat.add_zero] at ga gd;have e4:decide ((0:Int)<((0:Nat):Int))=false:=by decide
          clear q4 b c
          go_wp2
          refine wb_ wr.heap.size ?_;intro C T
          repeat(go_big_quiet_step (first
           |((intro _;with_reducible rfl))
           |(intro n;have f:=b_ D n;simp only [c_ n aE v0,c_ n y y2,c_ n y y3,c_ f N ga,c_ f J gd,Result.andThen];exact⟨trivial,rfl⟩)
          ))
          intro w8 g;clear T;have z:=h_ hb g;clear g
          go_wp2
          go_roundw
          ·exact⟨0+1,by omega,by go_num,z,aI⟩
          ·simp [intOf]
         ·obtain⟨G,rfl⟩: ∃ G,i=G+1:=⟨i-1,by omega⟩
          obtain⟨aF,aN,p,X,_,aK,gp⟩:=Z.o.num (show G<k+1 by omega);obtain⟨rfl,rfl⟩:bD=aF/\oD=aN:=by simpa using X
          have cU:decide ((0:Int)<((G+1:Nat):Int))=true:=T_ (by omega);have bP:decide ((0:Int)<(G:Int)+1)=true:=T_ (by omega);have bQ:decide (0<G+1)=true:=T_ (by omega);have bO:IntKind.i64.wrap (((G+1:Nat):Int)-1)=(G:Int):=by rw [show((G+1:Nat):Int)-1=(G:Int) by omega];exact IntWalk.i64_in _ (by omega)
          have bL:(G:Int)<((k+1:Nat):Int):=by omega
          have bM:(G:Int)<(k:Int)+1:=by omega
          clear X;have e5:decide (a<=p)=false:=F_ (by rcases q4 with h|h;omega;exact h p aK);clear q4 b c aK
          go_wp2
          refine wb_ wr.heap.size ?_;intro C T
          repeat(go_big_quiet_step (first
           |((intro _;with_reducible rfl))
           |(intro n;have f:=b_ D n;simp only [c_ n aE v0,c_ n y y2,c_ n y y3,c_ f N ga,c_ f J gd,c_ f J gp,Result.andThen];exact⟨trivial,rfl⟩)
          ))
          intro w8 g;clear T;have z:=h_ hb g;clear g
          go_wp2
          go_roundw
          ·exact⟨G+1+1,by omega,by go_num,z,aI⟩
          ·simp [intOf];omega
        ·have F:Hd (aK_ M (Y:Int) arr dep=false):=by show _=_;rw [aZ.o,d4_ bB (by simpa using aA),Bool.and_false,Bool.and_false]
         have hx:a<0∨(¬ a<0/\M.hz<d)∨(¬ a<0/\ ¬ M.hz<d/\d<a)∨(¬ a<0/\ ¬ M.hz<d/\ ¬ d<a/\ ∃ G p,i=G+1/\dep[G]?=some p/\a<=p):=by
          by_cases S:a<0
          ·exact .inl S
          ·by_cases e:M.hz<d
           ·exact .inr (.inl ⟨S,e⟩)
           ·by_cases q3:d<a
            ·exact .inr (.inr (.inl ⟨S,e,q3⟩))
            ·refine .inr (.inr (.inr ⟨S,e,q3,?_⟩));refine Classical.byContradiction fun n=>aA (s.2 ⟨S,e,q3,?_⟩);rcases Nat.eq_zero_or_pos i with h|h
             ·exact .inl h
             ·exact .inr fun p hp cJ=>n ⟨i-1,p,by omega,hp,cJ⟩
         clear s aA U b c;rcases hx with S|⟨S,e⟩|⟨S,e,q3⟩|⟨S,e,q3,G,p,rfl,aK,q4⟩
         ·have e1:decide (a<0)=true:=T_ S
          go_wp2
          refine wb_ wr.heap.size ?_;intro C T
          repeat(go_big_quiet_step (first
           |((intro _;with_reducible rfl))
           |(intro n;have f:=b_ D n;simp only [c_ n aE v0,c_ n y y2,c_ n y y3,c_ f N ga,c_ f J gd,Result.andThen];exact⟨trivial,rfl⟩)
          ))
          intro w8 g;clear T;have z:=h_ D g;clear g
          go_wp2
          go_returns;exact⟨am_ F.o.symm,z.o⟩
         ·have e1:decide (a<0)=false:=F_ S;have e2:decide (M.hz<d)=true:=T_ e
          go_wp2
          refine wb_ wr.heap.size ?_;intro C T
          repeat(go_big_quiet_step (first
           |((intro _;with_reducible rfl))
           |(intro n;have f:=b_ D n;simp only [c_ n aE v0,c_ n y y2,c_ n y y3,c_ f N ga,c_ f J gd,Result.andThen];exact⟨trivial,rfl⟩)
          ))
          intro w8 g;clear T;have z:=h_ D g;clear g
          go_wp2
          go_returns;exact⟨am_ F.o.symm,z.o⟩
         ·have e1:decide (a<0)=false:=F_ S;have e2:decide (M.hz<d)=false:=F_ e;have e3:decide (d<a)=true:=T_ q3
          go_wp2
          refine wb_ wr.heap.size ?_;intro C T
          repeat(go_big_quiet_step (first
           |((intro _;with_reducible rfl))
           |(intro n;have f:=b_ D n;simp only [c_ n aE v0,c_ n y y2,c_ n y y3,c_ f N ga,c_ f J gd,Result.andThen];exact⟨trivial,rfl⟩)
          ))
          intro w8 g;clear T;have z:=h_ D g;clear g
          go_wp2
          go_returns;exact⟨am_ F.o.symm,z.o⟩
         ·have e1:decide (a<0)=false:=F_ S;have e2:decide (M.hz<d)=false:=F_ e;have e3:decide (d<a)=false:=F_ q3;obtain⟨aF,aN,p',X,_,aV,gp⟩:=Z.o.num (show G<k+1 by omega);obtain⟨rfl,rfl⟩:bD=aF/\oD=aN:=by simpa using X
          have cU:decide ((0:Int)<((G+1:Nat):Int))=true:=T_ (by omega);have bP:decide ((0:Int)<(G:Int)+1)=true:=T_ (by omega);have bQ:decide (0<G+1)=true:=T_ (by omega);have bO:IntKind.i64.wrap (((G+1:Nat):Int)-1)=(G:Int):=by rw [show((G+1:Nat):Int)-1=(G:Int) by omega];exact IntWalk.i64_in _ (by omega)
          have bL:(G:Int)<((k+1:Nat):Int):=by omega
          have bM:(G:Int)<(k:Int)+1:=by omega
          obtain rfl:p=p':=Option.some.inj (aK.symm.trans aV);clear X aV;have e5:decide (a<=p)=true:=T_ q4;clear aK
          go_wp2
          refine wb_ wr.heap.size ?_;intro C T
          repeat(go_big_quiet_step (first
           |((intro _;with_reducible rfl))
           |(intro n;have f:=b_ D n;simp only [c_ n aE v0,c_ n y y2,c_ n y y3,c_ f N ga,c_ f J gd,c_ f J gp,Result.andThen];exact⟨trivial,rfl⟩)
          ))
          intro w8 g;clear T;have z:=h_ D g;clear g
          go_wp2
          go_returns;exact⟨am_ F.o.symm,z.o⟩
       ·obtain rfl:i=k+1:=by omega
        have aL:Hd (aK_ M (Y:Int) arr dep=(decide (arr[0]?=dep[0]?)&&decide (arr[k]?=dep[k]?))):=by show _=_;rw [aZ.o,kf_ fun j hj=>U.o j hj,Bool.and_true]
        obtain⟨bA,oA,a,rfl,N,b,ga⟩:=aG.o.num (show 0<k+1 by omega);obtain⟨bD,oD,d,rfl,J,c,gd⟩:=Z.o.num (show 0<k+1 by omega);obtain⟨cE,cX,ae,bY,_,aW,cF⟩:=aG.o.num (show k<k+1 by omega);obtain⟨aF,aN,de,X,_,aX,cG⟩:=Z.o.num (show k<k+1 by omega);obtain⟨rfl,rfl⟩:bA=cE/\oA=cX:=by simpa using bY
        obtain⟨rfl,rfl⟩:bD=aF/\oD=aN:=by simpa using X
        have L:Hd (aK_ M (Y:Int) arr dep=(decide (a=d)&&decide (ae=de))):=by
         show _=_;rw [aL.o,b,c,aW,aX]
         congr 1<;>simp
        simp only [Nat.add_zero] at ga gd;have dL:IntKind.i64.wrap (((k+1:Nat):Int)-1)=(k:Int):=by rw [show((k+1:Nat):Int)-1=(k:Int) by omega];exact IntWalk.i64_in _ (by omega)
        have dM:IntKind.i64.wrap ((k:Int)+1-1)=(k:Int):=by rw [show(k:Int)+1-1=(k:Int) by omega];exact IntWalk.i64_in _ (by omega)
        have dO:(k:Int)<((k+1:Nat):Int):=by omega
        have dP:(k:Int)<(k:Int)+1:=by omega
        clear b c aW aX bY X aL U aZ;by_cases aO:a=d
        ·subst aO;obtain⟨ve,cB⟩:=e_ ((ae==de));have r:Hd (ve=aK_ M (Y:Int) arr dep):=by show _=_;rw [L.o, <-cB,T_ rfl,Bool.true_and,Bool.eq_iff_iff];simp
         clear L
         go_wp2
         refine wb_ wr.heap.size ?_;intro C T
         repeat(go_big_quiet_step (first
          |((intro _;with_reducible rfl))
          |(intro n;have f:=b_ D n;simp only [c_ n y y2,c_ n y y3,c_ f N ga,c_ f J gd,c_ f N cF,c_ f J cG,Result.andThen];exact⟨trivial,rfl⟩)
         ))
         intro w8 g;clear T;have z:=h_ D g;clear g
         go_wp2
         go_returns;exact⟨am_ (by first|exact r.o|(rw [cB];exact r.o)),z.o⟩
        ·have dC:(a==d)=false:=by simp [aO]
         have r:Hd (aK_ M (Y:Int) arr dep=false):=by show _=_;rw [L.o,F_ aO,Bool.false_and]
         clear L aO
         go_wp2
         refine wb_ wr.heap.size ?_;intro C T
         repeat(go_big_quiet_step (first
          |((intro _;with_reducible rfl))
          |(intro n;have f:=b_ D n;simp only [c_ n y y2,c_ n y y3,c_ f N ga,c_ f J gd,Result.andThen];exact⟨trivial,rfl⟩)
         ))
         intro w8 g;clear T;have z:=h_ D g;clear g
         go_wp2
         go_returns;exact⟨am_ r.o.symm,z.o⟩
    ·have F:Hd (aK_ M (Y:Int) arr dep=false):=by show _=_;unfold aK_;rw [hl.o,show decide (dep.length=m1)=false from F_ (by rw [Z.o.len];exact bV)];simp
     have g1:((m1:Int) !=(m1:Int))=false:=by simp
     have g2:((m2:Int) !=(m1:Int))=true:=by simp;omega
     go_wp2
     clear aB aC P Q R;go_returns;exact⟨am_ F.o.symm,h9.o⟩
   ·have F:Hd (aK_ M (Y:Int) arr dep=false):=by show _=_;unfold aK_;rw [hl.o,show decide (arr.length=nS)=false from F_ (by rw [aG.o.len];exact bU)];simp
    have g1:((m1:Int) !=(nS:Int))=true:=by simp;omega
    go_wp2
    clear aB aC P Q R;go_returns;exact⟨am_ F.o.symm,h9.o⟩
  ·have F:Hd (aK_ M (Y:Int) arr dep=false):=by
    show _=_;unfold aK_ ak_;rw [if_neg aS,Int.toNat_natCast,List.getElem?_eq_none (by rw [bX.o];omega)];rfl
   have bN:decide (nT<=Y)=true:=T_ (by omega)
   go_wp2
   clear aB aC Q R;go_returns;exact⟨am_ F.o.symm,by first|exact aM.o|(rw [<-P];exact aM.o)⟩
theorem oG_ {M:ab_} {L:List RunP} {i:Nat} {r:RunP} (hr:L[i]?=some r) (h:bH_ M r=false):(cu_ aN_ M&&L.all (bH_ M))=false:=by
 rw [Bool.and_eq_false_iff];right;rw [List.all_eq_false];exact⟨r,List.mem_of_getElem? hr,by rw [h];simp⟩
theorem je_ (M:ab_) (V:WV) (A:Option Addr) (n c:Nat) (L:List RunP) (we:World) (hr:RW we M V) (hf:Few M) (hL:be_ we A n L) (hn:n<=100000):
 Calls Tryz.prog 76 #[wVal M V,.slice A n c] we (rb_ (.int .i64 (errC M L)) we):=by
 have aI:=H_ (fun w h=>kC_ M V w h hf);have aJ:=H_ (fun w (h:RW w M V) hG hz t no x1 x2 m1 m2 d1 d2 aQ aS ha hd=>mV_ M V w h hG hf hz t no x1 x2 m1 m2 d1 d2 aQ aS ha hd);obtain⟨w1,b1,aA,N,aV,s,B1,bB⟩:=eW we 31 M V;obtain⟨a0,a1,a2,a3,a4,a5,aP,aD,aR,aT,aH,n0,n1,n2,n3,n4,n5,nP,nD,nR,nT,nH,c0,c1,c2,c3,c4,c5,cP,cD,cR,cT,cH⟩:=V;have aM:=H_ hr;have aU:=H_ hL;have G:=H_ hL.len;simp only [wVal] at*;obtain⟨p0,p1,p2,p3,p4,p5,p6,p7,p8,p9,Q,R⟩:=c_12 B1;have aO:=H_ B1;clear B1 aV hr hL;go_enter Tryz.func76,Tryz.ntmps76;by_cases q:16384<n
 ·have Y:Hd (errC M L=3):=hU_ (by rw [G.o];exact q);have hl:decide (16384<n)=true:=T_ q;have aZ:decide ((16384:Int)<(n:Int))=true:=T_ (by omega)
  go_wp2
  clear aA N;go_returns;exact⟨ah_ Y.o.symm,s.o⟩
 ·have hl:decide (16384<n)=false:=F_ q;have aZ:decide ((16384:Int)<(n:Int))=false:=F_ (by omega);have qF:=c0_;go_wp2_with fail;refine(aI.o w1 (aM.o.below s.o)).mono ?_;rintro e w3 ⟨cc,k,a,rfl,g,S⟩;have h3:=h_ s S;have aN:=H_ (aO.o.below S)
  cases Z:cu_ aN_ M with
  |false=>
   have bE:(cc !=0)=true:=by
    have:cc≠0:=fun e=>by have:=g.1 e;rw [Z] at this;cases this
    simp [this]
   have Y:Hd (errC M L=2):=e5_ (by rw [G.o];exact q) (by rw [Z,Bool.false_and]);clear g S Z p0 p1 p2 p3 p4 p5 p6 p7 p8 p9 Q R
   go_wp2
   clear aA N;go_returns;exact⟨ah_ Y.o.symm,h3.o⟩
  |true=>
   obtain rfl:cc=0:=g.2 Z;have aK:=H_ (gw_ Z);have aX:=H_ Z;have aW:=H_ (fun w (h:RW w M _)=>aJ.o w h (eq_ aK.o) aK.o.hz.2);have aG:Hd (Below w3.heap.size w3 w3):=Below.refl _ _;have aF:Hd (∀ j r,j<0 ->L[j]?=some r ->bH_ M r=true):=fun j r hj=>absurd hj (by omega);clear g S Z p0 p1 p2 p3 p4 p5 p6 p7 p8 p9 Q R aJ aI
   go_wp2
   clear aA N;go_loopw [5] (fun iv wr=> ∃ i:Nat,i<=n/\iv= .int .i64 i/\Hd (Below w3.heap.size w3 wr)/\Hd (∀ j r,j<i ->L[j]?=some r ->bH_ M r=true)) (fun iv _=>n-(intOf iv).toNat)
   ·exact⟨0,Nat.zero_le _,rfl,aG,aF⟩
   ·clear aG aF;obtain⟨i,hi,rfl,hb,D⟩:=hrel;have F:=h_ h3 hb.o;by_cases aY:i<n
    ·have bC:(i:Int)<(n:Int):=by omega
     obtain⟨bL,oL,r,A1,n1,e1,A2,n2,e2,rfl,z,P,t0,t1,t2,t3,aB,aC,_,_⟩:=aU.o.get aY;have aE:=H_ (aN.o.below hb.o);obtain⟨p0,p1,p2,p3,p4,p5,p6,p7,p8,p9,Q,R⟩:=c_12 aE.o;have f:=aE.o.lt;have y:=H_ (fun w (h:Below we.heap.size we w)=>aW.o w (aM.o.below h) r.trip r.no A1 A2 n1 n2 e1 e2 r.arr r.dep (aB.below h) (aC.below h));have T:aK_ M r.trip r.arr r.dep=bH_ M r:=rfl;rw [T] at y;obtain⟨rt,d⟩:=e_ r.trip;obtain⟨rn,b⟩:=e_ r.no;rw [d] at t0 y;rw [b] at t1 y;have bD:=H_ P
     cases hv:bH_ M r with
     |false=>
      rw [hv] at y;have Y:Hd (errC M L=2):=e5_ (by rw [G.o];exact q) (oG_ P hv);clear P aB aC T hv D d b
      go_wp2
      refine wb_ wr.heap.size ?_;intro C hC
      repeat(go_big_quiet_step (first
       |((intro _;with_reducible rfl))
       |(intro g;have p:=b_ F g;simp only [c_ g f p0,c_ g f p1,c_ g f p2,c_ g f p3,c_ g f p4,c_ g f p5,c_ g f p6,c_ g f p7,c_ g f p8,c_ g f p9,c_ g f Q,c_ g f R,c_ p z t0,c_ p z t1,c_ p z t2,c_ p z t3,Result.andThen];exact⟨trivial,rfl⟩)
       |(intro g;have p:=b_ F g;(with_reducible refine(y.o _ p).mono ?_);rintro e bA ⟨rfl,hw⟩;exact⟨rfl,u_ g hw⟩)))
      intro w9 J;clear hC;have X:=h_ F J;clear J
      go_wp2
      go_returns;exact⟨ah_ Y.o.symm,X.o⟩
     |true=>
      rw [hv] at y
      have U:Hd (∀ j r,j<i+1 ->L[j]?=some r ->bH_ M r=true):=fun j r' hj aL=>by
       rcases Nat.lt_or_ge j i with h|h
       ·exact D.o j r' h aL
       ·obtain rfl:j=i:=by omega
        obtain rfl:=Option.some.inj (P.symm.trans aL);exact hv
      clear P aB aC T hv D d b
      go_wp2
      refine wb_ wr.heap.size ?_;intro C hC
      repeat(go_big_quiet_step (first
       |((intro _;with_reducible rfl))
       |(intro g;have p:=b_ F g;simp only [c_ g f p0,c_ g f p1,c_ g f p2,c_ g f p3,c_ g f p4,c_ g f p5,c_ g f p6,c_ g f p7,c_ g f p8,c_ g f p9,c_ g f Q,c_ g f R,c_ p z t0,c_ p z t1,c_ p z t2,c_ p z t3,Result.andThen];exact⟨trivial,rfl⟩)
       |(intro g;have p:=b_ F g;(with_reducible refine(y.o _ p).mono ?_);rintro e bA ⟨rfl,hw⟩;exact⟨rfl,u_ g hw⟩)))
      intro w9 J;clear hC;have X:=h_ hb J;clear J
      go_wp2
      go_roundw
      ·exact⟨i+1,by omega,by go_num,X,U⟩
      ·simp [intOf];omega
    ·have Y:Hd (errC M L=0):=hz_ (by rw [G.o];exact q) aX.o (List.all_eq_true.2 fun r hr=>by
      obtain⟨j,hj⟩:=List.getElem?_of_mem hr;exact D.o j r (by have:=(List.getElem?_eq_some_iff.1 hj).1;have:=G.o;omega) hj)
     go_wp2
     go_returns;exact⟨ah_ Y.o.symm,F.o⟩
def dj_ (F:List Int) (n:Nat):List Value:=(List.range n).map fun(k:Nat)=>Value.bool (decide ((k:Int)∈F))
theorem m0_ (n:Nat):dj_ [] n=List.replicate n (.bool false):=by
 unfold dj_;refine List.ext_getElem (by simp) fun k h1 h2=>by simp
theorem fS_ (F:List Int) (n:Nat):(dj_ F n).length =n:=by unfold dj_;simp
theorem gE_ (F:List Int) {n k:Nat} (h:k<n):(dj_ F n)[k]?=some (.bool (decide ((k:Int)∈F))):=by
 unfold dj_;rw [List.getElem?_map,List.getElem?_range h];rfl
theorem hh_ {F:List Int} {n x:Nat} (hn:x<n):(dj_ F n).set x (.bool true)=dj_ (F++[(x:Int)]) n:=by
 refine List.ext_getElem? fun k=>?_;by_cases f:k<n
 ·rw [gE_ _ f,List.getElem?_set];by_cases e:x=k
  ·subst e;rw [if_pos rfl,if_pos (by rw [fS_];exact f)];simp
  ·rw [if_neg e,gE_ _ f]
   congr 2
   simp only [List.mem_append,List.mem_singleton];rw [decide_eq_decide];constructor
   ·exact fun h=> .inl h
   ·rintro(h|h)
    ·exact h
    ·exact absurd (by omega) e
 ·rw [List.getElem?_eq_none (by rw [List.length_set,fS_];omega),List.getElem?_eq_none (by rw [fS_];omega)]
theorem k0_ {F:List Int} {x:Int} (h:F.Nodup) (hx:x ∉ F):(F++[x]).Nodup :=List.nodup_append.2 ⟨h,by simp,fun a g b f=>by simp at f;subst f;exact fun e=>hx (e ▸ g)⟩
theorem nA_:(Tryz.prog.info? 4).map (fun i=>(i.zero,i.size,i.bytes))=some (some (.bool false),1,1):=by kernel_rfl
theorem oS_ (n:Nat) (hn:n<=100000) (W:World):(Instr.makeSlice 66 (.int .i64 (n:Int)) (.int .i64 (n:Int))).run Tryz.prog W= .ok (.slice (some ⟨W.heap.size,0,none⟩) n n) (W.alloc (.cells (List.replicate n (Value.bool false)).toArray 4)):=by
 obtain⟨i,g,p,j,f⟩:=info_parts nA_;have:=run_make (P:=Tryz.prog) W 66 4 i _ Tryz.underlying66 g p .i64 .i64 (n:Int) (n:Int) (by omega) (Int.le_refl _) (by rw [f];omega) (by omega);rw [j] at this;rw [show(List.replicate n (Value.bool false)).toArray =madeCells #[.bool false] n by rw [<-toList_madeCells_one]];simpa [Value.cells] using this
theorem pU_ {M:ab_} {L:List RunP} (h:errC M L=0): ¬ 16384<L.length:=by
 intro f;unfold errC at h;rw [if_pos f] at h;cases h
theorem lm_ (M:ab_) (V:WV) (A:Option Addr) (n c:Nat) (L:List RunP) (A2:Option Addr) (m c2:Nat) (P:List PatP) (we:World) (hr:RW we M V) (hf:Few M) (hL:be_ we A n L) (hn:n<=100000) (hl: ∀ r∈L,r.arr.length<=100000/\r.dep.length<=100000)
 (hP:bm_ we A2 m P) (hm:m<=100000) (hps: ∀ p∈P,p.runs.length<=100000):
 Calls Tryz.prog 52 #[wVal M V,.slice A n c,.slice A2 m c2] we (rb_ (.int .i64 (chkP M L P)) we):=by
 have dL:=H_ (fun w h1 h3=>je_ M V A n c L w h1 hf h3 hn);have cF:=H_ hr;have bW:=H_ hL;have eF:=H_ hP;have dJ:=H_ hl;have dM:=H_ hps;have bA:=H_ hL.len;have bY:=H_ hP.len;obtain⟨aF,s⟩:=e_ (chkP M L P);rw [s];have J:=H_ s;clear s;obtain⟨w1,b1,eO,dB,eH,cJ,B1,eU⟩:=eW we 31 M V;obtain⟨a0,a1,a2,a3,a4,a5,aP,aD,aR,aT,aH,n0,n1,n2,n3,n4,n5,nP,nD,nR,nT,nH,c0,c1,c2,c3,c4,c5,cP,cD,cR,cT,cH⟩:=V;simp only [wVal] at*;obtain⟨p0,p1,p2,p3,p4,p5,p6,p7,p8,p9,eQ,eR⟩:=c_12 B1;have cQ:=H_ B1;clear B1 eH hr hL hP hl hps hf;go_enter Tryz.func52,Tryz.ntmps52;go_wp2_with fail;refine(dL.o w1 (cF.o.below cJ.o) (bW.o.below cJ.o)).mono ?_;rintro e w2 ⟨rfl,cA⟩;have aZ:=h_ cJ cA;have bU:=H_ (cQ.o.below cA);clear cA p0 p1 p2 p3 p4 p5 p6 p7 p8 p9 eQ eR dL cQ;by_cases he:errC M L=0
 ·have cY:=H_ (eT_ (pU_ he) he);have S:Hd ((if cg_ M L P then 0 else 2)=aF):=by rw [<-J.o];exact(if_pos he).symm
  simp only [he];clear he J;have cE:=oS_ n hn w2;obtain⟨sb,bJ⟩:=e_ w2.heap.size;have B3:=Bx.new w2 4 (List.replicate n (.bool false));have ha:=ag_ w2 (List.replicate n (.bool false)).toArray 4;obtain⟨w3,cK⟩:=e_ (w2.alloc (.cells (List.replicate n (.bool false)).toArray 4));rw [cK] at cE ha;change Bx (w2.alloc (.cells (List.replicate n (.bool false)).toArray 4)) _ _ _ at B3;rw [cK,bJ, <-m0_ n] at B3;rw [bJ] at cE;have dG:Hd (we.heap.size<=sb):=by rw [<-bJ];exact aZ.o.size
  have cU:=h_ aZ ha;have cO:=H_ (bU.o.below ha);have bZ:Hd (b1<sb):=by have:=bU.o.lt;show _<_;omega
  have B3:Hd (Bx w3 sb 4 (dj_ (gone P 0 [] 0) n)):=by show Bx _ _ _ _;rw [ea_];exact B3
  have b:Hd ((gone P 0 [] 0).Nodup):=by show List.Nodup _;rw [ea_];exact List.nodup_nil
  have aO:Hd (0=(gone P 0 [] 0).length):=by rw [ea_];rfl
  rename_i gx;clear gx bU aZ ha cK bJ
  go_wp2
  clear cE;go_loopw [9,10] (fun vn vi wr=> ∃ (a N:Nat),a<=m/\vn= .int .i64 N/\vi= .int .i64 a/\Hd (Bx wr sb 4 (dj_ (gone P a [] 0) n))/\Hd ((gone P a [] 0).Nodup)/\Hd (dB_ M L P a)/\Hd (N=(gone P a [] 0).length)/\N<=a*100000/\Hd (But w3 wr [sb])) (fun _ vi _=>m-(intOf vi).toNat)
  ·exact⟨0,0,Nat.zero_le _,rfl,rfl,B3,b,gp_,aO,by omega,But.refl _ _⟩
  ·rename World=>wo
   clear B3 b aO;obtain⟨a,N,ha,rfl,rfl,hB,aL,aX,hN,eE,Z⟩:=hrel;have aQ:Hd (Below we.heap.size we wo):=cU.o.trans (Z.o.below cU.o.size (by simpa using dG.o));by_cases eG:a<m
   ·have fD:(a:Int)<(m:Int):=by omega
    obtain⟨bp,op,p,X1,m1,d1,rfl,i,hp,g0,g1,s1,eN⟩:=eF.o.get eG;have fI:m1<=100000:=by rw [<-s1.len];exact dM.o p (List.mem_of_getElem? hp)
    have dW:=H_ s1;have X:=H_ hp;have bF:Hd (p.runs.length=m1):=s1.len;obtain⟨dT,aW⟩:=e_ p.rt;have aA:=H_ aW;rw [aW] at g0;have cX:Hd (Bx wo sb 4 (dj_ (gone P a p.runs 0) n)):=by rw [eV_ (l':=[])];exact hB.o
    have b:Hd ((gone P a p.runs 0).Nodup):=by rw [eV_ (l':=[])];exact aL.o
    have aO:Hd (N=(gone P a p.runs 0).length):=by rw [eV_ (l':=[])];exact hN.o
    clear s1 hp aW hB aL hN eN
    go_wp2
    go_loopw [9,11] (fun vn vk wr=> ∃ (k N:Nat),k<=m1/\vn= .int .i64 N/\vk= .int .i64 k/\Hd (Bx wr sb 4 (dj_ (gone P a p.runs k) n))/\Hd ((gone P a p.runs k).Nodup)/\Hd (RowK M L p.rt p.runs k)/\Hd (N=(gone P a p.runs k).length)/\N<=a*100000+k/\Hd (But wo wr [sb])) (fun _ vk _=>m1-(intOf vk).toNat)
    ·exact⟨0,N,Nat.zero_le _,rfl,rfl,cX,b,ig_ _ _,aO,Nat.le_trans eE (Nat.le_add_right _ _),But.refl _ _⟩
    ·clear cX b aO;obtain⟨k,N,hk,rfl,rfl,hB,aL,aI,hN,fC,U⟩:=hrel;have aS:=Z;have Z:=U;have D:Hd (Below we.heap.size we wr):=aQ.o.trans (U.o.below aQ.o.size (by simpa using dG.o));have z1:=c_ D.o i g1;by_cases eK:k<m1
     ·have fE:(k:Int)<(m1:Int):=by omega
      obtain⟨b5,o5,x,rfl,cB,hx,v5⟩:=dW.o.num eK;have eS:=c_ D.o cB v5;have bV:=H_ (cO.o.keep ((aS.o.trans U.o).keep b1 cO.o.lt (by simp;have:=bZ.o;omega)));have bP:=bV.o.cell 10 rfl;have bM:=bV.o.lt;have aE:=hB.o.lt;have R:=H_ hx;clear hx bV;by_cases bK:x<0
      ·have F:Hd (cg_ M L P=false):=ee_ X.o R.o (ij_ bK);have bS:decide (x<0)=true:=T_ bK
       go_wp2
       refine wb_ wr.heap.size ?_;intro C hC
       repeat(go_big_quiet_step (first
        |((intro _;with_reducible rfl))
       ))
       intro w9 j;clear hC
       go_wp2
       go_returns;exact⟨ah_ (by rw [<-S.o,F.o];rfl),b_ D j⟩
      ·by_cases cN:(n:Int)<=x
       ·have F:Hd (cg_ M L P=false):=ee_ X.o R.o (hd_ (by rw [bA.o];exact cN));have bS:decide (x<0)=false:=F_ bK;have dR:decide ((n:Int)<=x)=true:=T_ cN
        go_wp2
        refine wb_ wr.heap.size ?_;intro C hC
        repeat(go_big_quiet_step (first
         |((intro _;with_reducible rfl))
        ))
        intro w9 j;clear hC
        go_wp2
        go_returns;exact⟨ah_ (by rw [<-S.o,F.o];rfl),b_ D j⟩
       ·obtain⟨Y,rfl⟩:=Int.eq_ofNat_of_zero_le (show 0<=x by omega);have aJ:Y<n:=by omega
        have fJ:(Y:Int)<(n:Int):=by omega
        have bS:decide ((Y:Int)<0)=false:=F_ (by omega);have dR:decide (n<=Y)=false:=F_ (by omega);have qs:=hB.o.cell Y (gE_ _ aJ);clear bK cN;by_cases T:(Y:Int)∈gone P a p.runs k
        ·have F:Hd (cg_ M L P=false):=mC_ X.o R.o T;rw [T_ T] at qs;clear T
         go_wp2
         refine wb_ wr.heap.size ?_;intro C hC
         repeat(go_big_quiet_step (first
          |((intro _;with_reducible rfl))
          |(intro G;have g:=b_ D G;simp only [c_ G aE qs,Result.andThen];exact⟨trivial,rfl⟩)
         ))
         intro w9 j;clear hC
         go_wp2
         go_returns;exact⟨ah_ (by rw [<-S.o,F.o];rfl),b_ D j⟩
        ·have bQ:Hd ((gone P a p.runs (k+1)).Nodup):=by show List.Nodup _;rw [cP_ R.o];exact k0_ aL.o T
         have cZ:Hd (N+1=(gone P a p.runs (k+1)).length):=by show _=_;rw [cP_ R.o,List.length_append, <-hN.o];rfl
         rw [F_ T] at qs;clear T;obtain⟨bL,oL,r,A1,n1,e1,dX,n2,e2,rfl,z,bG,t0,t1,t2,t3,bN,bO,bD,bE⟩:=bW.o.get aJ;obtain⟨kt,q,cS,hq,dP,dQ⟩:=d8_ cY.o bG;have eJ:kt<nT:=by have h1:M.trips.length=nT:=cF.o.rT.len;have:=(List.getElem?_eq_some_iff.1 hq).1;omega
         obtain⟨bT,oT,q',rfl,bC,dO,dF⟩:=cF.o.rT.get eJ;obtain rfl:q=q':=Option.some.inj (hq.symm.trans dO);have z0:=dF 0 _ rfl;have eX:(kt:Int)<(nT:Int):=by omega
         rw [cS] at t0;rw [dP,Nat.add_zero] at z0;obtain⟨rq,cG⟩:=e_ (rtOf M L (Y:Int));rw [cG] at z0;have aY:=H_ cG;have aN:(0:Int)<=(Y:Int)/\(Y:Int)<(L.length:Int):=by rw [bA.o];omega
         have aN:=H_ aN;clear hq dO dF dP cG;by_cases cI:rq=dT
         ·subst cI;have eM:(rq !=rq)=false:=by simp
          rcases Nat.eq_zero_or_pos k with dH|dH
          ·subst dH;simp only [Nat.add_zero] at eS;have aC:Hd (RowK M L p.rt p.runs (0+1)):=aI.o.step R.o (by rw [aA.o, <-aY.o];exact gq_ aN.o.1 aN.o.2);have fG:decide ((0:Int)<((0:Nat):Int))=false:=by decide
           clear bN bO bD bE bG t1 t2 t3
           go_wp2
           refine wb_ wr.heap.size ?_;intro C hC
           repeat(go_big_quiet_step (first
            |((intro _;with_reducible rfl))
            |(intro G;have g:=b_ D G;simp only [c_ G aE qs,c_ G bM bP,c_ g z t0,c_ g bC z0,c_ g i g0,Result.andThen];exact⟨trivial,rfl⟩)
           ))
           intro w9 j;clear hC;have d:=hB.o.below j;have Q:=H_ (Z.o.trans (But.of_below j [sb]));have qf:=d.frozen Y;have qy:=c_ j aE qs;have BF:=d.set Y (.bool true);rw [hh_ aJ, <-cP_ R.o] at BF;have y:=Q.o.trans (But.of_set w9 ⟨sb,Y,none⟩ (.bool true) (by simp));obtain⟨wF,cL⟩:=e_ (w9.setCell ⟨sb,Y,none⟩ (.bool true));rw [cL] at BF y;have BF:=H_ BF;have y:=H_ y;clear j d Q
           go_wp2
           go_roundw
           ·exact⟨0+1,N+1,by omega,by go_num,by go_num,BF,bQ,aC,cZ,by omega,y⟩
           ·simp [intOf];omega
          ·obtain⟨k',rfl⟩: ∃ k',k=k'+1:=⟨k-1,by omega⟩
           obtain⟨b6,o6,x',cV,eI,cM,v6⟩:=dW.o.num (show k'<m1 by omega);obtain⟨rfl,rfl⟩:b5=b6/\o5=o6:=by simpa using cV
           have aV:=jn_ (aI.o k' x' (by omega) cM);obtain⟨xp,rfl⟩:=Int.eq_ofNat_of_zero_le aV.1;have dS:xp<n:=by have:=aV.2;rw [bA.o] at this;omega
           have fB:(xp:Int)<(n:Int):=by omega
           obtain⟨dY,eP,r',A3,n3,e3,A4,n4,e4,cW,dC,bH,s0,s1,s2,s3,dU,dV,dD,dE⟩:=bW.o.get dS;obtain⟨rfl,rfl⟩:bL=dY/\oL=eP:=by simpa using cW
           obtain⟨fK,q9,dZ,eA,eB,bR⟩:=d8_ cY.o bH;clear dZ eA eB;have aK:=H_ (fun w (h:Below we.heap.size we w)=>fl_ (r'.trip,r'.no,(A3,n3,e3),(A4,n4,e4)) (r.trip,r.no,(A1,n1,e1),(dX,n2,e2)) r' r w ⟨rfl,rfl,dU.below h,dD,dV.below h,dE⟩ ⟨rfl,rfl,bN.below h,bD,bO.below h,bE⟩ (by have:=dJ.o r' (List.mem_of_getElem? bH);omega) (by have:=dJ.o r' (List.mem_of_getElem? bH);omega));simp only [rnE,SlV.v] at aK;rw [cS] at aK;have fF:decide ((0:Int)<((k'+1:Nat):Int))=true:=T_ (by omega);have eZ:decide ((0:Int)<(k':Int)+1)=true:=T_ (by omega);have fA:decide (0<k'+1)=true:=T_ (by omega);have eY:IntKind.i64.wrap (((k'+1:Nat):Int)-1)=(k':Int):=by rw [show((k'+1:Nat):Int)-1=(k':Int) by omega];exact IntWalk.i64_in _ (by omega)
           have eV:(k':Int)<(m1:Int):=by omega
           have aM:ch_ M L p.rt (c5_ p.runs (k'+1)) (Y:Int)=aE_ r' r:=by rw [aA.o, <-aY.o,he_ aN.o.1 aN.o.2 cM,dQ,bR]
           clear cM cV aV bG bH cW dQ bR bN bO dU dV bD bE dD dE eI dC
           cases bB:aE_ r' r with
           |false=>
            rw [bB] at aK aM;have F:Hd (cg_ M L P=false):=ee_ X.o R.o aM;clear bB aM
            go_wp2
            refine wb_ wr.heap.size ?_;intro C hC
            repeat(go_big_quiet_step (first
             |((intro _;with_reducible rfl))
             |(intro G;have g:=b_ D G;simp only [c_ G aE qs,c_ G bM bP,c_ g z t0,c_ g bC z0,c_ g i g0,c_ g i g1,c_ g cB v6,c_ g z t1,c_ g z t2,c_ g z t3,c_ g z s0,c_ g z s1,c_ g z s2,c_ g z s3,Result.andThen];exact⟨trivial,rfl⟩)
             |(intro G;have g:=b_ D G;(with_reducible refine(aK.o _ g).mono ?_);rintro e eT ⟨rfl,hw⟩;exact⟨rfl,u_ G hw⟩)))
            intro w9 j;clear hC
            go_wp2
            go_returns;exact⟨ah_ (by rw [<-S.o,F.o];rfl),b_ D j⟩
           |true=>
            rw [bB] at aK aM;have aC:Hd (RowK M L p.rt p.runs (k'+1+1)):=aI.o.step R.o aM;clear bB aM
            go_wp2
            refine wb_ wr.heap.size ?_;intro C hC
            repeat(go_big_quiet_step (first
             |((intro _;with_reducible rfl))
             |(intro G;have g:=b_ D G;simp only [c_ G aE qs,c_ G bM bP,c_ g z t0,c_ g bC z0,c_ g i g0,c_ g i g1,c_ g cB v6,c_ g z t1,c_ g z t2,c_ g z t3,c_ g z s0,c_ g z s1,c_ g z s2,c_ g z s3,Result.andThen];exact⟨trivial,rfl⟩)
             |(intro G;have g:=b_ D G;(with_reducible refine(aK.o _ g).mono ?_);rintro e eT ⟨rfl,hw⟩;exact⟨rfl,u_ G hw⟩)))
            intro w9 j;clear hC;have d:=hB.o.below j;have Q:=H_ (Z.o.trans (But.of_below j [sb]));have qf:=d.frozen Y;have qy:=c_ j aE qs;have BF:=d.set Y (.bool true);rw [hh_ aJ, <-cP_ R.o] at BF;have y:=Q.o.trans (But.of_set w9 ⟨sb,Y,none⟩ (.bool true) (by simp));obtain⟨wF,cL⟩:=e_ (w9.setCell ⟨sb,Y,none⟩ (.bool true));rw [cL] at BF y;have BF:=H_ BF;have y:=H_ y;clear j d Q
            go_wp2
            go_roundw
            ·exact⟨k'+1+1,N+1,by omega,by go_num,by go_num,BF,bQ,aC,cZ,by omega,y⟩
            ·simp [intOf];omega
         ·have eM:(rq !=dT)=true:=by simp [cI]
          have F:Hd (cg_ M L P=false):=ee_ X.o R.o (jo_ (by rw [aY.o,aA.o];exact cI));clear bN bO bD bE bG t1 t2 t3
          go_wp2
          refine wb_ wr.heap.size ?_;intro C hC
          repeat(go_big_quiet_step (first
           |((intro _;with_reducible rfl))
           |(intro G;have g:=b_ D G;simp only [c_ G aE qs,c_ G bM bP,c_ g z t0,c_ g bC z0,c_ g i g0,Result.andThen];exact⟨trivial,rfl⟩)
          ))
          intro w9 j;clear hC
          go_wp2
          go_returns;exact⟨ah_ (by rw [<-S.o,F.o];rfl),b_ D j⟩
     ·obtain rfl:k=m1:=by omega
      have eC:Hd (Bx wr sb 4 (dj_ (gone P (a+1) [] 0) n)):=by have:=hB.o;rw [<-bF.o,d9_ (l:=[]) X.o] at this;exact this
      have dK:Hd ((gone P (a+1) [] 0).Nodup):=by have:=aL.o;rw [<-bF.o,d9_ (l:=[]) X.o] at this;exact this
      have eD:Hd (N=(gone P (a+1) [] 0).length):=by have:=hN.o;rw [<-bF.o,d9_ (l:=[]) X.o] at this;exact this
      have bI:Hd (dB_ M L P (a+1)):=aX.o.step X.o (by rw [bF.o];exact aI.o);have cC:=H_ (aS.o.trans U.o)
      go_wp2
      go_roundw
      ·exact⟨a+1,N,by omega,rfl,by go_num,eC,dK,bI,eD,by omega,cC⟩
      ·simp [intOf];omega
   ·obtain rfl:a=m:=by omega
    have D:=aQ;have aU:=mB_ (P:=P) (M:=M) (L:=L) (f:=fun x=>if x∈P.flatMap PatP.runs then some 1 else none) (by rw [bY.o];exact aX.o) ⟨by have:=aL.o;rw [<-bY.o,e6_] at this;exact this,fun x=>rfl⟩;have bX:N=(P.flatMap PatP.runs).length :=by have:=hN.o;rw [<-bY.o,e6_] at this;exact this
    rw [<-bX,bA.o] at aU;have aG:=H_ S.o;by_cases dA:N=n
    ·subst dA;have aB:(0:Int)=aF:=by rw [<-aG.o,aU];simp
     have eL:((N:Int) !=(N:Int))=false:=by simp
     have aB:=H_ aB;clear S aG aU bX
     go_wp2
     go_returns;exact⟨ah_ aB.o,D.o⟩
    ·have aB:(2:Int)=aF:=by rw [<-aG.o,aU,F_ dA];rfl
     have eL:((N:Int) !=(n:Int))=true:=by simp;omega
     have aB:=H_ aB;clear S aG aU bX
     go_wp2
     go_returns;exact⟨ah_ aB.o,D.o⟩
 ·have S:Hd (errC M L=aF):=by rw [<-J.o];exact(if_neg he).symm
  have fH:(errC M L !=0)=true:=by simp [he]
  clear he J
  go_wp2
  clear eO dB;go_returns;exact⟨ah_ S.o,aZ.o⟩
