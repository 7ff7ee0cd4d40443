/- Merged. -/
import Derived.Test.YtechdefolfboeaaGreatDoorPd2
set_option linter.unusedVariables false
set_option linter.unusedSimpArgs false
set_option maxHeartbeats 2000000
namespace Go.Proofs.YtechdefolfboeaaGreatDoor
open Go.RowKit B
theorem dx_ (x:Int) (A:Option Addr) (n c:Nat) (w:World):Calls Tryz.prog 142 #[.int .i64 x,.slice A n c] w fun e w'=>e= .returned (.bool (inB x n))/\w=w':=by
 unfold inB;by_cases g:0<=x
 ·have f:decide (0<=x)=true:=T_ g;rw [f];go_enter Tryz.func142,Tryz.ntmps142
  go_wp2
  go_returns;exact⟨by simp,rfl⟩
 ·have f:decide (0<=x)=false:=F_ g;rw [f];go_enter Tryz.func142,Tryz.ntmps142
  go_wp2
  go_returns;exact⟨by simp,rfl⟩
theorem dU_ {α:Type} {L:List α} {f:α ->Bool} {c q:Bool} {i:Nat} (h:q=(c&&(L.take i).all f)) (he:q=false∨L.length<=i):q=(c&&L.all f):=by
 rcases he with rfl|he
 ·cases c with
  |false=>rfl
  |true=>
   rw [Bool.true_and] at h ⊢
   symm
   rw [Bool.eq_false_iff];intro g;have:(L.take i).all f=true:=List.all_eq_true.2 fun x j=>List.all_eq_true.1 g x (List.mem_of_mem_take j);rw [this] at h;cases h
 ·rw [h,List.take_of_length_le he]
theorem dV_ {α:Type} {L:List α} {f:α ->Bool} {c:Bool} {i:Nat} {x:α} (h:true=(c&&(L.take i).all f)) (hx:L[i]?=some x):f x=(c&&(L.take (i+1)).all f):=by
 have g:=h.symm;rw [Bool.and_eq_true] at g;rw [an_ hx,List.all_append,g.1,g.2];simp
set_option maxRecDepth 100000 in
theorem na_ (W:ab_) (V:WV) (w:World) (hr:RW w W V) (hf:Few W):
 Calls Tryz.prog 109 #[wVal W V] w (rb_ (.bool (bS_ W)) w):=by
 obtain⟨a0,a1,a2,a3,a4,a5,aP,aD,aR,aT,aH,J,n1,n2,n3,n4,n5,nP,nD,nR,nT,nH,c0,c1,c2,c3,c4,c5,cP,cD,cR,cT,cH⟩:=V
 obtain⟨l0,l1,l2,l3,l4,l5,lP,lD,lR,lT,lH⟩:W.stops.length=J/\W.nPaths.length=n1/\W.nDoors.length=n2/\W.nRoutes.length=n3/\W.nTrips.length=n4/\W.nHazs.length=n5/\W.paths.length=nP/\W.doors.length=nD/\W.routes.length=nR/\W.trips.length=nT/\W.hazs.length=nH:=
  ⟨hr.r0.len,hr.r1.len,hr.r2.len,hr.r3.len,hr.r4.len,hr.r5.len,hr.rP.len,hr.rD.len,hr.rR.len,hr.rT.len,hr.rH.len⟩
 have mP:nP<=100000:=by have:=hf.sP;omega
 have mD:nD<=100000:=by have:=hf.sD;omega
 have mR:nR<=100000:=by have:=hf.sR;omega
 have mT:nT<=100000:=by have:=hf.sT;omega
 have mH:nH<=100000:=by have:=hf.sH;omega
 have bE:=H_ hf.sr;have L0:=H_ l0;have L1:=H_ l1;have L3:=H_ l3;have LP:=H_ lP;have LD:=H_ lD;have LR:=H_ lR;have LT:=H_ lT;have LH:=H_ lH;have R:Hd (b2_ W=(decide (n1=nP)&&(decide (n2=nD)&&(decide (n3=nR)&&(decide (n4=nT)&&decide (n5=nH)))))):=by show _=_;unfold b2_;rw [l1,l2,l3,l4,l5,lP,lD,lR,lT,lH]
 obtain⟨hz,aX⟩:=e_ W.hz;simp only [wVal];rw [aX];obtain⟨w1,bP,aJ,B1⟩:=box0 w 31 [.int .i64 hz,.slice a0 J c0,.slice a1 n1 c1,.slice a2 n2 c2,.slice a3 n3 c3,.slice a4 n4 c4,.slice a5 n5 c5,.slice aP nP cP,.slice aD nD cD,.slice aR nR cR,.slice aT nT cT,.slice aH nH cH];obtain⟨w2,bQ,aF,B2⟩:=box0 w1 24 [.slice a0 J c0,.slice a1 n1 c1,.slice a2 n2 c2,.slice a3 n3 c3,.slice a4 n4 c4,.slice a5 n5 c5];have aI:=B1.below aF;obtain⟨bn,aU⟩:=e_ w.heap.size;obtain⟨bb,aS⟩:=e_ w1.heap.size;rw [aU] at aI B1;rw [aS] at B2;have hX:Hd (∀ U,Below w2.heap.size w2 U ->Bx U bn 31 [.int .i64 hz,.slice a0 J c0,.slice a1 n1 c1,.slice a2 n2 c2,.slice a3 n3 c3,.slice a4 n4 c4,.slice a5 n5 c5,.slice aP nP cP,.slice aD nD cD,.slice aR nR cR,.slice aT nT cT,.slice aH nH cH]/\Bx U bb 24 [.slice a0 J c0,.slice a1 n1 c1,.slice a2 n2 c2,.slice a3 n3 c3,.slice a4 n4 c4,.slice a5 n5 c5]):=fun U hU=>⟨aI.below hU,B2.below hU⟩
 have bO:Hd (∀ U,Below w2.heap.size w2 U ->Below w.heap.size w U):=fun U hU=>u_ aJ (aF.trans (hU.mono aF.size));have hR:=H_ ((hr.below aJ).below aF);obtain⟨y1,q1,q2,q3,q4,q5,q6⟩:=c_7 B1;clear l0 l1 l2 l3 l4 l5 lP lD lR lT lH hr hf aX aJ aF B1 B2 aI;go_enter Tryz.func109,Tryz.ntmps109;go_upto_region 2 with fail;clear bP bQ aU aS y1 q1 q2 q3 q4 q5 q6;obtain⟨f,j⟩:=hX.o _ (Below.refl _ _);obtain⟨x0,M,a,x3,x4,x5⟩:=c_6 j;have y2:=f.cell 7 rfl;have y3:=f.cell 8 rfl;have y4:=f.cell 9 rfl;have y5:=f.cell 10 rfl;have y6:=f.cell 11 rfl;go_cut [4] (fun v wx=>v= .bool (b2_ W)/\w2=wx)
 ·by_cases d0:n1=nP
  ·have e0:((n1:Int)==(nP:Int))=true:=by simp [d0]
   by_cases d1:n2=nD
   ·have T:((n2:Int)==(nD:Int))=true:=by simp [d1]
    by_cases d2:n3=nR
    ·have e2:((n3:Int)==(nR:Int))=true:=by simp [d2]
     by_cases d3:n4=nT
     ·have e3:((n4:Int)==(nT:Int))=true:=by simp [d3]
      by_cases d4:n5=nH
      ·have e4:((n5:Int)==(nH:Int))=true:=by simp [d4]
       go_wp2
       go_meet
       ·exact⟨by rw [R.o];simp [d0,d1,d2,d3,d4],rfl⟩
      ·have e4:((n5:Int)==(nH:Int))=false:=by simp;omega
       go_wp2
       go_meet
       ·exact⟨by rw [R.o];simp [d0,d1,d2,d3,d4],rfl⟩
     ·have e3:((n4:Int)==(nT:Int))=false:=by simp;omega
      go_wp2
      go_meet
      ·exact⟨by rw [R.o];simp [d0,d1,d2,d3],rfl⟩
    ·have e2:((n3:Int)==(nR:Int))=false:=by simp;omega
     go_wp2
     go_meet
     ·exact⟨by rw [R.o];simp [d0,d1,d2],rfl⟩
   ·have T:((n2:Int)==(nD:Int))=false:=by simp;omega
    go_wp2
    go_meet
    ·exact⟨by rw [R.o];simp [d0,d1],rfl⟩
  ·have e0:((n1:Int)==(nP:Int))=false:=by simp;omega
   go_wp2
   go_meet
   ·exact⟨by rw [R.o];simp [d0],rfl⟩
 ·obtain⟨rfl,rfl⟩:=hcut;clear f j x0 M a x3 x4 x5 y2 y3 y4 y5 y6;have bL:Hd (Rd w2 3 az_ aP nP W.paths):=hR.o.rP;have bJ:Hd (Rd w2 6 aJ_ aD nD W.doors):=hR.o.rD;have bM:Hd (cI_ w2 aR nR W.routes):=hR.o.rR;have bN:Hd (Rd w2 4 aL_ aT nT W.trips):=hR.o.rT;have bK:Hd (Rd w2 5 hazE aH nH W.hazs):=hR.o.rH;obtain⟨q,Q⟩:=e_ (b2_ W);rw [Q];have aO:Hd (q=b2_ W):=Q.symm;have aL:=H_ (Below.refl w2.heap.size w2);clear Q hR
  go_wp2
  go_loopw [5,4] (fun d qv wr=> ∃ (i:Nat) (q:Bool),i<=nP/\d= .int .i64 i/\qv= .bool q/\Hd (q=(b2_ W&&(W.paths.take i).all (okP W)))/\Hd (Below w2.heap.size w2 wr)) (fun d _ _=>nP-(intOf d).toNat)
  ·exact⟨0,q,Nat.zero_le _,rfl,rfl,by show _=_;rw [List.take_zero,List.all_nil,Bool.and_true];exact aO.o,aL⟩
  ·obtain⟨i,q,hi,rfl,rfl,Q,F⟩:=hrel;obtain⟨f,j⟩:=hX.o _ F.o;have x0:=j.cell 0 rfl;have M:=j.cell 1 rfl;have x3:=j.cell 3 rfl;have y2:=f.cell 7 rfl;have y3:=f.cell 8 rfl;have y4:=f.cell 9 rfl;have y5:=f.cell 10 rfl;have y6:=f.cell 11 rfl;have Z:=f.lt;have Y:=j.lt;clear f j;by_cases n:i<nP/\q=true
   ·obtain⟨c,rfl⟩:=n;have aC:(i:Int)<(nP:Int):=by omega
    obtain⟨b,o,M,a,x3,rfl,L,hx,f0,f1,_⟩:=(bL.o.below F.o).trip c;have g:=dV_ Q.o hx;have S:Hd (∀ U,Calls Tryz.prog 142 #[.int .i64 M,.slice a0 J c0] U fun e w'=>e= .returned (.bool (inB M J))/\U=w'):=fun U=>dx_ M a0 J c0 U;have aG:Hd (∀ U,Calls Tryz.prog 142 #[.int .i64 a,.slice a0 J c0] U fun e w'=>e= .returned (.bool (inB a J))/\U=w'):=fun U=>dx_ a a0 J c0 U;have P:okP W (M,a,x3)=(inB M J&&inB a J):=by rw [<-L0.o];rfl
    rw [P] at g;clear P;obtain⟨v1,T⟩:=e_ (inB M J);obtain⟨v2,e2⟩:=e_ (inB a J);rw [T] at S;rw [e2] at aG;rw [T,e2] at g;have g:=H_ g;rename_i N;clear N T e2 hx
    try clear aM aQ
    try clear aK aN
    try clear aL aO
    cases v1 with
    |false=>
     go_wp2
     refine wb_ wr.heap.size ?_;intro C hC
     repeat(go_big_quiet_step (first
      |((intro _;with_reducible rfl))
      |(intro p;simp only [c_ p Z y2,c_ p Y x0,c_ p L f0,c_ p L f1,Result.andThen];exact⟨trivial,rfl⟩)
      |(intro p;with_reducible refine(S.o _).mono ?_;rintro e aB ⟨rfl,rfl⟩;exact⟨rfl,p⟩)))
     intro w9 G;clear hC;have z:=h_ F G;clear G
     go_wp2
     go_roundw
     ·exact⟨i+1,_,by omega,by go_num,rfl,g,z⟩
     ·simp [intOf];omega
    |true=>
     rw [Bool.true_and] at g
     go_wp2
     refine wb_ wr.heap.size ?_;intro C hC
     repeat(go_big_quiet_step (first
      |((intro _;with_reducible rfl))
      |(intro p;simp only [c_ p Z y2,c_ p Y x0,c_ p L f0,c_ p L f1,Result.andThen];exact⟨trivial,rfl⟩)
      |(intro p;with_reducible refine(S.o _).mono ?_;rintro e aB ⟨rfl,rfl⟩;exact⟨rfl,p⟩)
      |(intro p;with_reducible refine(aG.o _).mono ?_;rintro e aB ⟨rfl,rfl⟩;exact⟨rfl,p⟩)))
     intro w9 G;clear hC;have z:=h_ F G;clear G
     go_wp2
     go_roundw
     ·exact⟨i+1,_,by omega,by go_num,rfl,g,z⟩
     ·simp [intOf];omega
   ·have y:q=false∨W.paths.length<=i:=by
     rw [LP.o]
     cases q with
     |false=>exact .inl rfl
     |true=>right;have: ¬ i<nP:=fun h=>n ⟨h,rfl⟩;omega
    have D:=H_ (dU_ Q.o y);go_upto_region 4 with fail;go_cut [64] (fun v wx=>v= .bool false/\wr=wx)
    ·by_cases h1:i<nP
     ·obtain rfl:q=false:=by cases q with
       |false=>rfl
       |true=>exact absurd ⟨h1,rfl⟩ n
      have X:(i:Int)<(nP:Int):=by omega
      go_wp2
      go_meet
      ·exact⟨rfl,by first|rfl|trivial⟩
     ·have X:decide ((i:Int)<(nP:Int))=false:=F_ (by omega);have aE:decide (i<nP)=false:=F_ h1
      go_wp2
      go_meet
      ·exact⟨rfl,by first|rfl|trivial⟩
    ·obtain⟨rfl,rfl⟩:=hcut;have aN:=D;have aK:=F;clear D y n Q
     go_wp2
     go_loopw [6,4] (fun d qv wr=> ∃ (i:Nat) (q:Bool),i<=nD/\d= .int .i64 i/\qv= .bool q/\Hd (q=((b2_ W&&W.paths.all (okP W))&&(W.doors.take i).all (okD W)))/\Hd (Below w2.heap.size w2 wr)) (fun d _ _=>nD-(intOf d).toNat)
     ·exact⟨0,q,Nat.zero_le _,rfl,rfl,by show _=_;rw [List.take_zero,List.all_nil,Bool.and_true];exact aN.o,aK⟩
     ·obtain⟨i,q,hi,rfl,rfl,Q,F⟩:=hrel;obtain⟨f,j⟩:=hX.o _ F.o;have x0:=j.cell 0 rfl;have M:=j.cell 1 rfl;have x3:=j.cell 3 rfl;have y2:=f.cell 7 rfl;have y3:=f.cell 8 rfl;have y4:=f.cell 9 rfl;have y5:=f.cell 10 rfl;have y6:=f.cell 11 rfl;have Z:=f.lt;have Y:=j.lt;clear f j;by_cases n:i<nD/\q=true
      ·obtain⟨c,rfl⟩:=n;have aC:(i:Int)<(nD:Int):=by omega
       obtain⟨b,o,⟨M,a,dl,df,de,du⟩,rfl,L,hx,p⟩:=(bJ.o.below F.o).get c;have f0:=p 0 _ rfl;have f1:=p 1 _ rfl;simp only [Nat.add_zero] at f0 f1;clear p;have g:=dV_ Q.o hx;have S:Hd (∀ U,Calls Tryz.prog 142 #[.int .i64 M,.slice a0 J c0] U fun e w'=>e= .returned (.bool (inB M J))/\U=w'):=fun U=>dx_ M a0 J c0 U;have aG:Hd (∀ U,Calls Tryz.prog 142 #[.int .i64 a,.slice a0 J c0] U fun e w'=>e= .returned (.bool (inB a J))/\U=w'):=fun U=>dx_ a a0 J c0 U;have P:okD W ⟨M,a,dl,df,de,du⟩=(inB M J&&inB a J):=by rw [<-L0.o];rfl
       rw [P] at g;clear P;obtain⟨v1,T⟩:=e_ (inB M J);obtain⟨v2,e2⟩:=e_ (inB a J);rw [T] at S;rw [e2] at aG;rw [T,e2] at g;have g:=H_ g;rename_i N;clear N T e2 hx
       try clear aM aQ
       try clear aK aN
       try clear aL aO
       cases v1 with
       |false=>
        go_wp2
        refine wb_ wr.heap.size ?_;intro C hC
        repeat(go_big_quiet_step (first
         |((intro _;with_reducible rfl))
         |(intro p;simp only [c_ p Z y3,c_ p Y x0,c_ p L f0,c_ p L f1,Result.andThen];exact⟨trivial,rfl⟩)
         |(intro p;with_reducible refine(S.o _).mono ?_;rintro e aB ⟨rfl,rfl⟩;exact⟨rfl,p⟩)))
        intro w9 G;clear hC;have z:=h_ F G;clear G
        go_wp2
        go_roundw
        ·exact⟨i+1,_,by omega,by go_num,rfl,g,z⟩
        ·simp [intOf];omega
       |true=>
        rw [Bool.true_and] at g
        go_wp2
        refine wb_ wr.heap.size ?_;intro C hC
        repeat(go_big_quiet_step (first
         |((intro _;with_reducible rfl))
         |(intro p;simp only [c_ p Z y3,c_ p Y x0,c_ p L f0,c_ p L f1,Result.andThen];exact⟨trivial,rfl⟩)
         |(intro p;with_reducible refine(S.o _).mono ?_;rintro e aB ⟨rfl,rfl⟩;exact⟨rfl,p⟩)
         |(intro p;with_reducible refine(aG.o _).mono ?_;rintro e aB ⟨rfl,rfl⟩;exact⟨rfl,p⟩)))
        intro w9 G;clear hC;have z:=h_ F G;clear G
        go_wp2
        go_roundw
        ·exact⟨i+1,_,by omega,by go_num,rfl,g,z⟩
        ·simp [intOf];omega
      ·have y:q=false∨W.doors.length<=i:=by
        rw [LD.o]
        cases q with
        |false=>exact .inl rfl
        |true=>right;have: ¬ i<nD:=fun h=>n ⟨h,rfl⟩;omega
       have D:=H_ (dU_ Q.o y);go_upto_region 8 with fail;go_cut [94] (fun v wx=>v= .bool false/\wr=wx)
       ·by_cases h1:i<nD
        ·obtain rfl:q=false:=by cases q with
          |false=>rfl
          |true=>exact absurd ⟨h1,rfl⟩ n
         have X:(i:Int)<(nD:Int):=by omega
         go_wp2
         go_meet
         ·exact⟨rfl,by first|rfl|trivial⟩
        ·have X:decide ((i:Int)<(nD:Int))=false:=F_ (by omega);have aE:decide (i<nD)=false:=F_ h1
         go_wp2
         go_meet
         ·exact⟨rfl,by first|rfl|trivial⟩
       ·obtain⟨rfl,rfl⟩:=hcut;have aQ:=D;have aM:=F;clear D y n Q
        go_wp2
        go_loopw [7,4] (fun d qv wr=> ∃ (i:Nat) (q:Bool),i<=nR/\d= .int .i64 i/\qv= .bool q/\Hd (q=(((b2_ W&&W.paths.all (okP W))&&W.doors.all (okD W))&&(W.routes.take i).all (okR W)))/\Hd (Below w2.heap.size w2 wr)) (fun d _ _=>nR-(intOf d).toNat)
        ·exact⟨0,q,Nat.zero_le _,rfl,rfl,by show _=_;rw [List.take_zero,List.all_nil,Bool.and_true];exact aQ.o,aM⟩
        ·obtain⟨i,q,hi,rfl,rfl,Q,F⟩:=hrel;obtain⟨f,j⟩:=hX.o _ F.o;have x0:=j.cell 0 rfl;have M:=j.cell 1 rfl;have x3:=j.cell 3 rfl;have y2:=f.cell 7 rfl;have y3:=f.cell 8 rfl;have y4:=f.cell 9 rfl;have y5:=f.cell 10 rfl;have y6:=f.cell 11 rfl;have Z:=f.lt;have Y:=j.lt;clear f j;by_cases n:i<nR/\q=true
         ·obtain⟨c,rfl⟩:=n;have aC:(i:Int)<(nR:Int):=by omega
          obtain⟨b,o,r,rfl,L,hx,⟨s1,m1,d1,f0,rs,_,_⟩,_,_⟩:=(bM.o.below F.o).get c;have g:=dV_ Q.o hx;have P:okR W r=r.stops.all fun s=>inB s J:=by rw [<-L0.o];rfl
          rw [P] at g;have aY:=rs.len;have bU:m1<=100000:=by have:=(bE.o r (List.mem_of_getElem? hx)).1;omega
          have bS:=H_ rs;have aZ:=H_ aY;have bA:=H_ g;obtain⟨wq,bR⟩: ∃ q,q=wr:=⟨_,rfl⟩
          subst bR;have aV:=F;clear g hx P rs aY x0 M x3 y2 y3 y5 y6 Q F
          go_wp2
          clear y4;go_loopw [8,4] (fun kv qv wr=> ∃ (k:Nat) (q:Bool),k<=m1/\kv= .int .i64 k/\qv= .bool q/\Hd (q=(true&&(r.stops.take k).all fun s=>inB s J))/\Hd (Below wq.heap.size wq wr)) (fun kv _ _=>m1-(intOf kv).toNat)
          ·exact⟨0,true,Nat.zero_le _,rfl,rfl,by show _=_;rw [List.take_zero];rfl,Below.refl _ _⟩
          ·obtain⟨k,q,hk,rfl,rfl,Q,F⟩:=hrel;obtain⟨f,j⟩:=hX.o _ (b_ aV F.o);have x0:=j.cell 0 rfl;have y4:=f.cell 9 rfl;have Z:=f.lt;have Y:=j.lt;have g0:=c_ F.o L f0;have zb:=Nat.lt_of_lt_of_le L F.o.size;clear f j;by_cases n:k<m1/\q=true
           ·obtain⟨bF,rfl⟩:=n;have bT:(k:Int)<(m1:Int):=by omega
            obtain⟨b2,o2,M,rfl,aW,hx,f1⟩:=(bS.o.below F.o).num bF;have g:=dV_ Q.o hx;obtain⟨v1,T⟩:=e_ (inB M J);have S:Hd (∀ U,Calls Tryz.prog 142 #[.int .i64 M,.slice a0 J c0] U fun e w'=>e= .returned (.bool (inB M J))/\U=w'):=fun U=>dx_ _ _ _ _ U;rw [T] at S g;have g:=H_ g;rename_i N;clear N T hx
            go_wp2
            refine wb_ wr.heap.size ?_;intro C hC
            repeat(go_big_quiet_step (first
             |((intro _;with_reducible rfl))
             |(intro p;simp only [c_ p Z y4,c_ p Y x0,c_ p zb g0,c_ p aW f1,Result.andThen];exact⟨trivial,rfl⟩)
             |(intro p;with_reducible refine(S.o _).mono ?_;rintro e aB ⟨rfl,rfl⟩;exact⟨rfl,p⟩)))
            intro w9 G;clear hC;have z:=h_ F G;clear G
            go_wp2
            go_roundw
            ·exact⟨k+1,_,by omega,by go_num,rfl,g,z⟩
            ·simp [intOf];omega
           ·have y:q=false∨r.stops.length<=k:=by
             rw [aZ.o]
             cases q with
             |false=>exact .inl rfl
             |true=>right;have: ¬ k<m1:=fun h=>n ⟨h,rfl⟩;omega
            have D:=dU_ Q.o y;rw [Bool.true_and] at D;have aA:Hd (q=(((b2_ W&&W.paths.all (okP W))&&W.doors.all (okD W))&&(W.routes.take (i+1)).all (okR W))):=by show _=_;rw [D];exact bA.o
            have z:=h_ aV F.o;clear D y Q;go_upto_region 15 with fail;go_cut [138] (fun v wx=>v= .bool false/\wr=wx)
            ·by_cases h1:k<m1
             ·obtain rfl:q=false:=by cases q with
               |false=>rfl
               |true=>exact absurd ⟨h1,rfl⟩ n
              have X:(k:Int)<(m1:Int):=by omega
              go_wp2
              go_meet
              ·exact⟨rfl,by first|rfl|trivial⟩
             ·have X:decide ((k:Int)<(m1:Int))=false:=F_ (by omega);have aE:decide (k<m1)=false:=F_ h1
              go_wp2
              go_meet
              ·exact⟨rfl,by first|rfl|trivial⟩
            ·obtain⟨rfl,rfl⟩:=hcut
             go_wp2
             go_roundw
             ·exact⟨i+1,_,by omega,by go_num,rfl,aA,z⟩
             ·simp [intOf];omega
         ·have y:q=false∨W.routes.length<=i:=by
           rw [LR.o]
           cases q with
           |false=>exact .inl rfl
           |true=>right;have: ¬ i<nR:=fun h=>n ⟨h,rfl⟩;omega
          have D:=H_ (dU_ Q.o y);go_upto_region 12 with fail;go_cut [124] (fun v wx=>v= .bool false/\wr=wx)
          ·by_cases h1:i<nR
           ·obtain rfl:q=false:=by cases q with
             |false=>rfl
             |true=>exact absurd ⟨h1,rfl⟩ n
            have X:(i:Int)<(nR:Int):=by omega
            go_wp2
            go_meet
            ·exact⟨rfl,by first|rfl|trivial⟩
           ·have X:decide ((i:Int)<(nR:Int))=false:=F_ (by omega);have aE:decide (i<nR)=false:=F_ h1
            go_wp2
            go_meet
            ·exact⟨rfl,by first|rfl|trivial⟩
          ·obtain⟨rfl,rfl⟩:=hcut;have bI:=D;have bD:=F;clear D y n Q
           go_wp2
           go_loopw [9,4] (fun d qv wr=> ∃ (i:Nat) (q:Bool),i<=nT/\d= .int .i64 i/\qv= .bool q/\Hd (q=((((b2_ W&&W.paths.all (okP W))&&W.doors.all (okD W))&&W.routes.all (okR W))&&(W.trips.take i).all (okT W)))/\Hd (Below w2.heap.size w2 wr)) (fun d _ _=>nT-(intOf d).toNat)
           ·exact⟨0,q,Nat.zero_le _,rfl,rfl,by show _=_;rw [List.take_zero,List.all_nil,Bool.and_true];exact bI.o,bD⟩
           ·obtain⟨i,q,hi,rfl,rfl,Q,F⟩:=hrel;obtain⟨f,j⟩:=hX.o _ F.o;have x0:=j.cell 0 rfl;have M:=j.cell 1 rfl;have x3:=j.cell 3 rfl;have y2:=f.cell 7 rfl;have y3:=f.cell 8 rfl;have y4:=f.cell 9 rfl;have y5:=f.cell 10 rfl;have y6:=f.cell 11 rfl;have Z:=f.lt;have Y:=j.lt;clear f j;by_cases n:i<nT/\q=true
            ·obtain⟨c,rfl⟩:=n;have aC:(i:Int)<(nT:Int):=by omega
             obtain⟨b,o,⟨M,tf,te,tu⟩,rfl,L,hx,p⟩:=(bN.o.below F.o).get c;have f0:=p 0 _ rfl;simp only [Nat.add_zero] at f0;clear p;have g:=dV_ Q.o hx;have S:Hd (∀ U,Calls Tryz.prog 142 #[.int .i64 M,.slice a3 n3 c3] U fun e w'=>e= .returned (.bool (inB M n3))/\U=w'):=fun U=>dx_ _ _ _ _ U;have P:okT W ⟨M,tf,te,tu⟩=inB M n3:=by rw [<-L3.o];rfl
             rw [P] at g;obtain⟨v1,T⟩:=e_ (inB M n3);rw [T] at S g;have g:=H_ g;rename_i N;clear N T hx P
             go_wp2
             refine wb_ wr.heap.size ?_;intro C hC
             repeat(go_big_quiet_step (first
              |((intro _;with_reducible rfl))
              |(intro p;simp only [c_ p Z y5,c_ p Y x3,c_ p L f0,Result.andThen];exact⟨trivial,rfl⟩)
              |(intro p;with_reducible refine(S.o _).mono ?_;rintro e aB ⟨rfl,rfl⟩;exact⟨rfl,p⟩)))
             intro w9 G;clear hC;have z:=h_ F G;clear G
             go_wp2
             go_roundw
             ·exact⟨i+1,_,by omega,by go_num,rfl,g,z⟩
             ·simp [intOf];omega
            ·have y:q=false∨W.trips.length<=i:=by
              rw [LT.o]
              cases q with
              |false=>exact .inl rfl
              |true=>right;have: ¬ i<nT:=fun h=>n ⟨h,rfl⟩;omega
             have D:=H_ (dU_ Q.o y);go_upto_region 19 with fail;go_cut [160] (fun v wx=>v= .bool false/\wr=wx)
             ·by_cases h1:i<nT
              ·obtain rfl:q=false:=by cases q with
                |false=>rfl
                |true=>exact absurd ⟨h1,rfl⟩ n
               have X:(i:Int)<(nT:Int):=by omega
               go_wp2
               go_meet
               ·exact⟨rfl,by first|rfl|trivial⟩
              ·have X:decide ((i:Int)<(nT:Int))=false:=F_ (by omega);have aE:decide (i<nT)=false:=F_ h1
               go_wp2
               go_meet
               ·exact⟨rfl,by first|rfl|trivial⟩
             ·obtain⟨rfl,rfl⟩:=hcut;have bH:=D;have bC:=F;clear D y n Q
              go_wp2
              go_loopw [10,4] (fun d qv wr=> ∃ (i:Nat) (q:Bool),i<=nH/\d= .int .i64 i/\qv= .bool q/\Hd (q=(((((b2_ W&&W.paths.all (okP W))&&W.doors.all (okD W))&&W.routes.all (okR W))&&W.trips.all (okT W))&&(W.hazs.take i).all (okH W)))/\Hd (Below w2.heap.size w2 wr)) (fun d _ _=>nH-(intOf d).toNat)
              ·exact⟨0,q,Nat.zero_le _,rfl,rfl,by show _=_;rw [List.take_zero,List.all_nil,Bool.and_true];exact bH.o,bC⟩
              ·obtain⟨i,q,hi,rfl,rfl,Q,F⟩:=hrel;obtain⟨f,j⟩:=hX.o _ F.o;have x0:=j.cell 0 rfl;have M:=j.cell 1 rfl;have x3:=j.cell 3 rfl;have y2:=f.cell 7 rfl;have y3:=f.cell 8 rfl;have y4:=f.cell 9 rfl;have y5:=f.cell 10 rfl;have y6:=f.cell 11 rfl;have Z:=f.lt;have Y:=j.lt;clear f j;by_cases n:i<nH/\q=true
               ·obtain⟨c,rfl⟩:=n;have aC:(i:Int)<(nH:Int):=by omega
                obtain⟨b,o,⟨hs,a,hf,he,hd⟩,rfl,L,hx,p⟩:=(bK.o.below F.o).get c;have f0:=p 0 _ rfl;have f1:=p 1 _ rfl;simp only [Nat.add_zero] at f0 f1;have g:=dV_ Q.o hx;have P:okH W ⟨hs,a,hf,he,hd⟩=inB a (if hs then J else n1):=by rw [<-L0.o, <-L1.o];rfl
                rw [P] at g;have g:=H_ g;rename_i N;clear N hx P p
                cases hs with
                |true=>
                 go_wp2_with fail;refine(dx_ _ _ _ _ _).mono ?_;rintro e w9 ⟨rfl,rfl⟩;obtain⟨v1,T⟩:=e_ (inB a J);have aA:Hd (v1=(((((b2_ W&&W.paths.all (okP W))&&W.doors.all (okD W))&&W.routes.all (okR W))&&W.trips.all (okT W))&&(W.hazs.take (i+1)).all (okH W))):=by show _=_;rw [<-g.o, <-T];rfl
                 rw [T];clear T g
                 go_wp2
                 go_roundw
                 ·exact⟨i+1,_,by omega,by go_num,rfl,aA,F⟩
                 ·simp [intOf];omega
                |false=>
                 go_wp2_with fail;refine(dx_ _ _ _ _ _).mono ?_;rintro e w9 ⟨rfl,rfl⟩;obtain⟨v1,T⟩:=e_ (inB a n1);have aA:Hd (v1=(((((b2_ W&&W.paths.all (okP W))&&W.doors.all (okD W))&&W.routes.all (okR W))&&W.trips.all (okT W))&&(W.hazs.take (i+1)).all (okH W))):=by show _=_;rw [<-g.o, <-T];rfl
                 rw [T];clear T g
                 go_wp2
                 go_roundw
                 ·exact⟨i+1,_,by omega,by go_num,rfl,aA,F⟩
                 ·simp [intOf];omega
               ·have y:q=false∨W.hazs.length<=i:=by
                 rw [LH.o]
                 cases q with
                 |false=>exact .inl rfl
                 |true=>right;have: ¬ i<nH:=fun h=>n ⟨h,rfl⟩;omega
                have D:=H_ (dU_ Q.o y);go_upto_region 23 with fail;go_cut [179] (fun v wx=>v= .bool false/\wr=wx)
                ·by_cases h1:i<nH
                 ·obtain rfl:q=false:=by cases q with
                   |false=>rfl
                   |true=>exact absurd ⟨h1,rfl⟩ n
                  have X:(i:Int)<(nH:Int):=by omega
                  go_wp2
                  go_meet
                  ·exact⟨rfl,by first|rfl|trivial⟩
                 ·have X:decide ((i:Int)<(nH:Int))=false:=F_ (by omega);have aE:decide (i<nH)=false:=F_ h1
                  go_wp2
                  go_meet
                  ·exact⟨rfl,by first|rfl|trivial⟩
                ·obtain⟨rfl,rfl⟩:=hcut;have bG:=D;have bB:=F;clear D y n Q
                 go_wp2
                 go_returns;exact⟨am_ bG.o,bO.o _ bB.o⟩
