/- Merged. -/
import Derived.Test.YtechdefolfboeaaGreatDoorPd15
set_option linter.unusedVariables false
set_option linter.unusedSimpArgs false
set_option maxRecDepth 100000
set_option maxHeartbeats 2000000
namespace Go.Proofs.YtechdefolfboeaaGreatDoor.B
open Go.RowKit
section
variable {P:Program} {Q:Exit ->Act ->World ->Prop}
end
end Go.Proofs.YtechdefolfboeaaGreatDoor.B
namespace Go.Proofs.YtechdefolfboeaaGreatDoor
open Go.RowKit B K
theorem lj_ (bn A n c:Nat) (a:Option Addr) (l:List Str) (x:Int) (w:World) (hc:w.cell? ⟨bn,0,none⟩=some (.slice a n c)) (hr:Rd w 1 strE a n l) (h0:0<=x) (h1:x<(n:Int)):
 Calls Tryz.prog 135 #[.int .i64 x,.pointer (some ⟨bn,0,none⟩)] w (rb_ (.string (aO_ l x)) w):=by
 obtain⟨p,rfl⟩: ∃ p:Nat,x=p:=⟨x.toNat,by omega⟩
 obtain⟨b,o,s,rfl,hb,f,g⟩:=hr.str (k:=p) (by omega);rw [aG_ f];clear hr f;go_enter Tryz.func135,Tryz.ntmps135
 go_wp2
 go_returns;exact⟨rfl,Below.refl _ _⟩
theorem mS_ (M:ab_) (V:WV) (we:World) (hr:RW we M V) (hf:Few M) (hw:bS_ M=true):Calls Tryz.prog 95 #[wVal M V] we (ke_ M we):=by
 obtain⟨a0,a1,a2,a3,a4,a5,aP,aD,aR,aT,aH,n0,n1,n2,n3,n4,n5,nP,nD,nR,nT,nH,c0,c1,c2,c3,c4,c5,cP,cD,cR,cT,cH⟩:=V;have L0:Hd (M.stops.length=n0):=hr.r0.len;have L1:Hd (M.nPaths.length=n1):=hr.r1.len;have L3:Hd (M.nRoutes.length=n3):=hr.r3.len;have LP:Hd (M.paths.length=nP):=hr.rP.len;have LD:Hd (M.doors.length=nD):=hr.rD.len;have bJ:Hd (M.routes.length=nR):=hr.rR.len;have LT:Hd (M.trips.length=nT):=hr.rT.len;have LH:Hd (M.hazs.length=nH):=hr.rH.len;have h2:M.nDoors.length=n2:=hr.r2.len;have h4:M.nTrips.length=n4:=hr.r4.len;have h5:M.nHazs.length=n5:=hr.r5.len;have mS:n0<=100000:=by rw [<-L0.o];exact hf.s0
 have mP:nP<=100000:=by rw [<-LP.o];exact hf.sP
 have mD:nD<=100000:=by rw [<-LD.o];exact hf.sD
 have mR:nR<=100000:=by rw [<-bJ.o];exact hf.sR
 have mT:nT<=100000:=by rw [<-LT.o];exact hf.sT
 have mH:nH<=100000:=by rw [<-LH.o];exact hf.sH
 have dV:=H_ hf.sr;unfold bS_ b2_ at hw;simp only [Bool.and_eq_true,decide_eq_true_eq] at hw;obtain⟨⟨⟨⟨⟨⟨q1,q2,q3,q4,q5⟩,wP⟩,wD⟩,wR⟩,wT⟩,wH⟩:=hw;have eI:=H_ wP;have eF:=H_ wD;have eJ:=H_ wR;have eK:=H_ wT;have eG:=H_ wH;have K1:Hd (n1=nP):=by have:=L1.o;have:=LP.o;show _=_;omega
 have K2:Hd (n2=nD):=by have:=LD.o;show _=_;omega
 have K3:Hd (n3=nR):=by have:=L3.o;have:=bJ.o;show _=_;omega
 have K4:Hd (n4=nT):=by have:=LT.o;show _=_;omega
 have K5:Hd (n5=nH):=by have:=LH.o;show _=_;omega
 have aZ:Hd (∀ i,i<nP ->(bO_ M i).isSome):=fun i hi=>fs_ M (by rw [LP.o];exact hi);have aY:Hd (∀ i,i<nD ->(bN_ M i).isSome):=fun i hi=>fq_ M (by rw [LD.o];exact hi);have bS:Hd (∀ i,i<nR ->(bJ_ M i).isSome):=fun i hi=>ft_ M (by rw [bJ.o];exact hi);have bA:Hd (∀ i,i<nT ->(bP_ M i).isSome):=fun i hi=>fu_ M (by rw [LT.o];exact hi);have aU:Hd (∀ i,i<nH ->(bv_ M i).isSome):=fun i hi=>fr_ M (by rw [LH.o];exact hi);have eA:=H_ hr;simp only [wVal];clear hr hf wP wD wR wT wH q1 q2 q3 q4 q5 h2 h4 h5;obtain⟨w1,w2,b1,b2,eC,eE,cV,cW,cX,dQ,dR,eB,B1,B2,eY,dC⟩:=b5_ we 31 136 [.int .i64 M.hz,.slice a0 n0 c0,.slice a1 n1 c1,.slice a2 n2 c2,.slice a3 n3 c3,.slice a4 n4 c4,.slice a5 n5 c5,.slice aP nP cP,.slice aD nD cD,.slice aR nR cR,.slice aT nT cT,.slice aH nH cH] [.int .i64 0,.slice none 0 0,.slice none 0 0,.slice none 0 0,.slice none 0 0,.slice none 0 0,.slice none 0 0]
 obtain⟨p0,p1,p2,p3,p4,p5,p6,p7,p8,p9,eN,eO⟩:=c_12 B1;obtain⟨wn,bn,eL,cZ,aV,bI⟩:=box1 w2 24 [.slice a0 n0 c0,.slice a1 n1 c1,.slice a2 n2 c2,.slice a3 n3 c3,.slice a4 n4 c4,.slice a5 n5 c5];have cY:=h_ eB aV;have z0:=bI.cell 0 rfl;have aS:=H_ (B1.below aV);have cN:=H_ (B2.below aV);have aX:=H_ bI;have c:Hd (b1<wn.heap.size/\b2<wn.heap.size/\bn<wn.heap.size/\we.heap.size<=b2):=⟨aS.o.lt,cN.o.lt,bI.lt,dC.o⟩
 have aL:Hd (∀ wr,Below wn.heap.size wn wr ->RW wr M ⟨a0,a1,a2,a3,a4,a5,aP,aD,aR,aT,aH,n0,n1,n2,n3,n4,n5,nP,nD,nR,nT,nH,c0,c1,c2,c3,c4,c5,cP,cD,cR,cT,cH⟩):=fun wr h=>(eA.o.below cY.o).below h;clear B1 B2 bI dQ dR aV;obtain⟨r0,r1,r2,r3,r4,r5,r6,r7,r8,r9,fK,fL⟩:=c_12 aS.o;obtain⟨y0,y1,y2,y3,y4,y5⟩:=c_6 aX.o;go_enter Tryz.func95,Tryz.ntmps95;go_upto_region 2 with fail;clear eC eE cV cW cX eL cZ p0 p1 p2 p3 p4 p5 p6 p7 p8 p9 eN eO;go_cut [4] (fun v wx=> ∃ bo vS,v= .pointer (some ⟨bo,0,none⟩)/\TS M wn bo wx vS (.slice none 0 0) (.slice none 0 0) (.slice none 0 0) (.slice none 0 0) (.slice none 0 0) 0 0 0 0 0 [])
 ·have dU:=H_ (fun w h=>fz_ a0 n0 c0 M.stops w ((aL.o w h).r0) (by omega))
  go_wp2
  refine a0_ (fun fl x w=>GS wn [(fl 4,x 4,KOwn wn.heap.size 9 1 n0 (M.stops.flatMap strE)),(fl 6,x 6,KBox wn.heap.size 136 [.int .i64 0,.slice none 0 0,.slice none 0 0,.slice none 0 0,.slice none 0 0,.slice none 0 0,.slice none 0 0])] [] [fl 4] (fl 5) (x 5) (x 6) 136 [.int .i64 M.hz,(x 4),.slice none 0 0,.slice none 0 0,.slice none 0 0,.slice none 0 0,.slice none 0 0] (fl 7) w) (by kernel_rfl) (by kernel_rfl) (by kernel_rfl) (by kernel_rfl) (by kernel_rfl) ?_ ?_
  ·intro x0;refine GS.start ?_ ?_ ?_ rfl rfl
   ·intro e he;simp only [List.mem_cons,List.not_mem_nil,or_false] at he;rcases he with rfl|rfl<;>first|exact KNil.mono _ _ _|exact KOwn.mono _ _ _ _ _|exact KBox.mono _ _ _
   ·intro e he;simp only [List.mem_cons,List.not_mem_nil,or_false] at he;rcases he with rfl|rfl<;>rfl
   ·intro e he;cases he
  intro base O bC hO;have aK:Hd (∀ xs,evX base O xs (.tmp 1)= .pointer (some ⟨b1,0,none⟩)/\evX base O xs (.tmp 3)= .pointer (some ⟨bn,0,none⟩)/\evX base O xs (.tmp 4)=xs 6/\evX base O xs (.tmp 18)=xs 0/\evX base O xs (.tmp 19)=xs 1/\evX base O xs (.tmp 20)=xs 2/\evX base O xs (.tmp 21)=xs 3/\evX base O xs (.tmp 22)=xs 4/\evX base O xs (.tmp 23)=xs 5):=fun xs=>by rw [bC,hO];exact⟨rfl,rfl,rfl,rfl,rfl,rfl,rfl,rfl,rfl⟩
  clear bC hO;apply gd_ (n:=0);rfl
  ·intro _ g w _ m n _ _ r _ K t;have e1:=(r _).trans (aK.o g).1;clear r n;go_simp;exact t _ _ rfl m
  apply gd_ (n:=1);rfl
  ·intro _ g w _ m n _ _ r _ K t;have d0:=n.at_ 0 rfl rfl;have fC:=(r _).trans ((aK.o g).2.2.2.1.trans d0);clear r n;have m0:=c_ m.bel c.o.1 r0;go_simp;exact t _ _ rfl m
  apply gd_ (n:=2);rfl
  ·intro _ g w _ m n _ _ r _ K t;have e3:=(r _).trans (aK.o g).2.1;clear r n;go_simp;exact t _ _ rfl m
  apply gd_ (n:=3);rfl
  ·intro _ g w _ m n _ _ r _ K t;have d2:=n.at_ 2 rfl rfl;have fE:=(r _).trans ((q4_ (aK.o g)).2.1.trans d2);clear r n;have m0:=c_ m.bel c.o.2.2.1 y0;go_simp;exact t _ _ rfl m
  refine ga_ (n:=4) (fun _=>True) ?_ ?_
  ·intro _ g w _ m n p _ r _ K t;have d3:=n.at_ 3 rfl rfl;have dM:=(r _).trans ((q4_ (aK.o g)).2.2.1.trans d3);clear r n;go_simp;refine(dU.o w m.bel).mono ?_;rintro e fM ⟨v,rfl,ho,hb⟩;exact⟨_,rfl,t _ _ trivial (m.step 0 rfl p (by simp) hb (aB_ ho m.bel.size) bk_)⟩
  refine ga_ (n:=5) (fun _=>True) ?_ ?_
  ·intro _ g w _ m n p q r _ K t;have d1:=n.at_ 1 rfl rfl;have fD:=(r _).trans ((aK.o g).2.2.2.2.1.trans d1);have cM:=(r _).trans (q4_ (aK.o g)).2.2.2.1;clear r n;obtain⟨eZ,bF⟩:=m.wit 0 rfl (al_ q 4 rfl);obtain⟨cK,cL,aQ,_⟩:=Rd.of_own ad_ L0.o bF;rw [aQ] at cM;clear bF;have aG:=m.built (xb':= .agg (List.toArray [.int .i64 M.hz,(g 4),.slice none 0 0,.slice none 0 0,.slice none 0 0,.slice none 0 0,.slice none 0 0])) p (by simp [al_ q 4 rfl]) rfl;go_simp;rw [<-aQ];exact t _ _ trivial aG
  refine ga_ (n:=6) (fun _=>True) ?_ ?_
  ·intro _ _ w _ m n p _ r _ K t;clear r n;have aG:=m.bel.size;go_simp;exact t _ _ trivial (m.stepO 1 rfl p (ag_ _ _ _) ⟨_,rfl,aG,Bx.new w _ _⟩ bk_)
  refine ga_ (n:=7) (fun _=>True) ?_ ?_
  ·intro f g w _ m n p q r _ K t;have e4:=(r _).trans (aK.o g).2.2.1;have dO:=(r _).trans (q4_ (q4_ (aK.o g)));clear r n;have cQ:=m.ini p;obtain⟨gq,dE,dZ,X⟩:=cQ.get 1 rfl (al_ q 6 rfl);obtain⟨bE,dS⟩:=m.bd (al_ q 5 rfl);obtain⟨cK,cL,aQ,_⟩:=Rd.of_own ad_ L0.o (cQ.get 0 rfl (bE _ (by simp)));have cS: ∀ e∈[f 4,f 6],e=true:=by simp [al_ q 6 rfl,bE (f 4) (by simp)]
   exact aP_ (.tmp 4) (.tmp 23) 136 rfl (e4.trans dE) (dO.trans dS) X (by kernel_rfl) rfl (by simp [aQ,Value.oneCell']) (fun w' hB cO=>t _ _ trivial (m.put p (al_ q 5 rfl) (by simpa using cS) dE dZ X.lt hB cO))
  clear aK;intro xs wo hG hI;clear hI;have bW:=hG.bel;obtain⟨fN,bo,bQ,dD,dA,eX,dB,bX⟩:=hG.fin rfl;clear hG;have eQ:=bQ.get 0 rfl rfl;have dK:=bQ.get 1 rfl rfl;simp only [List.append_eq,List.cons_append,List.nil_append,aA_,List.setIfInBounds_toArray,List.set_cons_zero,List.set_cons_succ,Nat.zero_add,Nat.reduceAdd];have dT:=H_ dK;clear dK
  go_wp2
  go_meet
  ·obtain⟨g,hg,_,hB⟩:=dT.o;rw [dD] at hg;cases hg;exact⟨bo,xs 4,rfl,dB,dA,by rw [L0.o];exact ae_ eQ hB (by decide) bX,World.ownsRow_nil _ _ _ _,World.ownsRow_nil _ _ _ _,World.ownsRow_nil _ _ _ _,World.ownsRow_nil _ _ _ _,World.ownsRow_nil _ _ _ _,⟨rfl,fun k e h=>by simp at h⟩,bW⟩
 ·obtain⟨bo,vS,rfl,z⟩:=hcut;replace z:=H_ z;have s7:=(aS.o.low z.o.bel c.o.1).cell 7 rfl
  go_wp2
  clear s7;go_loopw [27] (fun iv wr=> ∃ (i:Nat) (v:Value),i<=nP/\iv= .int .i64 i/\Hd (TS M wn bo wr vS v (.slice none 0 0) (.slice none 0 0) (.slice none 0 0) (.slice none 0 0) i 0 0 0 0 [])) (fun iv _=>nP-(intOf iv).toNat)
  ·exact⟨0,_,Nat.zero_le _,rfl,z⟩
  ·clear z;obtain⟨i,v,hi,rfl,z⟩:=hrel;have R:=aL.o _ z.o.bel;by_cases aM:i<nP
   ·have aW:(i:Int)<(nP:Int):=by omega
    obtain⟨b,o,x1,x2,x3,rfl,bL,Y,f0,f1,f2⟩:=R.rP.trip aM;obtain⟨wa,ba,aJ,a,F,Z⟩:=box1 wr 99 [.int .i64 x1,.int .i64 x2,.int .i64 x3];obtain⟨q0,q1,q2⟩:=c_3 Z;have T:=H_ (R.below F);have J:=H_ (z.o.below F);have Q:=H_ (aX.o.low J.o.bel c.o.2.2.1);have G:=Z.lt;clear R z F Z;have N:=List.all_eq_true.1 eI.o _ (List.mem_of_getElem? Y);unfold okP at N;rw [Bool.and_eq_true] at N;obtain⟨aN,aO⟩:=N;simp only at aN aO;rw [L0.o] at aN aO;obtain⟨j1,j2⟩:=a5_.1 aN;obtain⟨p,rfl⟩: ∃ p:Nat,x1=p:=⟨x1.toNat,by omega⟩
    obtain⟨j3,j4⟩:=a5_.1 aO;obtain⟨q,rfl⟩: ∃ p:Nat,x2=p:=⟨x2.toNat,by omega⟩
    obtain⟨b0,o0,sp,e0,aF,d,g0⟩:=T.o.r0.str (show p<n0 by omega);obtain⟨dL,eM,bH,bR,_,bG,g1⟩:=T.o.r0.str (show q<n0 by omega);obtain⟨bx,ox,sn,rfl,aB,P,g2⟩:=T.o.r1.str (show i<n1 by have:=K1.o;omega);subst e0;cases bR;have hx:bO_ M i=some ⟨sn,sp,bH,x3⟩:=by unfold bO_;rw [Y];simp only;rw [aG_ P,aG_ d,aG_ bG]
    have bM:(i:Int)<(n1:Int):=by have:=K1.o;omega
    clear aN aO j1 j3 Y d bG P
    go_wp2
    refine wl_ [0,0,0,0,0,0,0,0,0,0,0,0,0,0,0,0,0,0,0,0,0,0,2,2,2,2] ?_;intro C hC;simp only [af_,Nat.reduceEqDiff, ↓reduceIte]
    repeat(go_big_quiet_step (first
     |(intro _;with_reducible rfl)
     |(intro y;simp only [(J.o.bx.below y).cell 2 rfl,(Q.o.below y).cell 1 rfl,(Q.o.below y).cell 0 rfl,c_ y G q0,c_ y G q1,c_ y G q2,c_ y aB g2,c_ y aF g0,c_ y aF g1,Result.andThen];exact⟨trivial,rfl⟩)))
    clear hC;intro C' aA;clear aA;intro wq X;have aC:=H_ (J.o.below X);clear aJ a J T Q X;obtain⟨W1,W2,W3,g,cA,k1,k3,S,D,U⟩:=(aC.o.stepP hx (fun j hj=>aZ.o j (by omega)) (by omega))
    replace U:=H_ U;have v5:=S.cell 2 rfl;have v6:=S.frozen 2;subst k1;have D:(Builtin.append_ #[130,130] 130 #[v,.slice (some ⟨wq.heap.size,0,none⟩) 1 1]).run Tryz.prog (wq.alloc (.cells #[.string sn,.string sp,.string bH,.int .i64 x3] 171))= .ok (.slice (some ⟨g,0,none⟩) (i+1) cA) W2:=D;clear S;go_wp2_with (at_builtin;refine ap_ (.tmp 33) (.tmp 54) 130 D ?_);go_roundw
    ·exact⟨i+1,_,by omega,by go_num,U⟩
    ·simp [intOf];omega
   ·obtain rfl:nP=i:=by omega
    clear R;obtain⟨uP,hu⟩: ∃ q,q=v:=⟨_,rfl⟩
    subst hu;have s8:=(aS.o.low z.o.bel c.o.1).cell 8 rfl
    go_wp2
    clear s8;go_loopw [61] (fun iv wr=> ∃ (i:Nat) (v:Value),i<=nD/\iv= .int .i64 i/\Hd (TS M wn bo wr vS uP v (.slice none 0 0) (.slice none 0 0) (.slice none 0 0) nP i 0 0 0 [])) (fun iv _=>nD-(intOf iv).toNat)
    ·exact⟨0,_,Nat.zero_le _,rfl,z⟩
    ·clear z;obtain⟨i,v,hi,rfl,z⟩:=hrel;have R:=aL.o _ z.o.bel;by_cases aM:i<nD
     ·have aW:(i:Int)<(nD:Int):=by omega
      obtain⟨b,o,⟨x1,x2,x3,x4,x5,x6⟩,rfl,bL,Y,y⟩:=R.rD.get aM;have f0:=y 0 _ rfl;have f1:=y 1 _ rfl;have f2:=y 2 _ rfl;have f3:=y 3 _ rfl;have f4:=y 4 _ rfl;have f5:=y 5 _ rfl;simp only [Nat.add_zero] at f0;clear y;obtain⟨wa,ba,aJ,a,F,Z⟩:=box1 wr 104 [.int .i64 x1,.int .i64 x2,.int .i64 x3,.int .i64 x4,.int .i64 x5,.int .i64 x6];obtain⟨q0,q1,q2,q3,q4,q5⟩:=c_6 Z;have T:=H_ (R.below F);have J:=H_ (z.o.below F);have Q:=H_ (aX.o.low J.o.bel c.o.2.2.1);have G:=Z.lt;clear R z F Z;have N:=List.all_eq_true.1 eF.o _ (List.mem_of_getElem? Y);unfold okD at N;rw [Bool.and_eq_true] at N;obtain⟨aN,aO⟩:=N;simp only at aN aO;rw [L0.o] at aN aO;obtain⟨j1,j2⟩:=a5_.1 aN;obtain⟨p,rfl⟩: ∃ p:Nat,x1=p:=⟨x1.toNat,by omega⟩
      obtain⟨j3,j4⟩:=a5_.1 aO;obtain⟨q,rfl⟩: ∃ p:Nat,x2=p:=⟨x2.toNat,by omega⟩
      obtain⟨b0,o0,sp,e0,aF,d,g0⟩:=T.o.r0.str (show p<n0 by omega);obtain⟨dL,eM,bH,bR,_,bG,g1⟩:=T.o.r0.str (show q<n0 by omega);obtain⟨bx,ox,sn,rfl,aB,P,g2⟩:=T.o.r2.str (show i<n2 by have:=K2.o;omega);subst e0;cases bR;have hx:bN_ M i=some ⟨sn,sp,bH,x3,x4,x5,x6⟩:=by unfold bN_;rw [Y];simp only;rw [aG_ P,aG_ d,aG_ bG]
      have bM:(i:Int)<(n2:Int):=by have:=K2.o;omega
      clear aN aO j1 j3 Y d bG P
      go_wp2
      refine wl_ [0,0,0,0,0,0,0,0,0,0,0,0,0,0,0,0,0,0,0,0,0,0,0,0,2,2,2,2] ?_;intro C hC;simp only [af_,Nat.reduceEqDiff, ↓reduceIte]
      repeat(go_big_quiet_step (first
       |(intro _;with_reducible rfl)
       |(intro y;simp only [(J.o.bx.below y).cell 3 rfl,(Q.o.below y).cell 2 rfl,(Q.o.below y).cell 0 rfl,c_ y G q0,c_ y G q1,c_ y G q2,c_ y G q3,c_ y G q4,c_ y G q5,c_ y aB g2,c_ y aF g0,c_ y aF g1,Result.andThen];exact⟨trivial,rfl⟩)))
      clear hC;intro C' aA;clear aA;intro wq X;have aC:=H_ (J.o.below X);clear aJ a J T Q X;obtain⟨W1,W2,W3,g,cA,k1,k3,S,D,U⟩:=(aC.o.stepD hx (fun j hj=>aY.o j (by omega)) (by omega))
      replace U:=H_ U;have v5:=S.cell 3 rfl;have v6:=S.frozen 3;subst k1;have D:(Builtin.append_ #[131,131] 131 #[v,.slice (some ⟨wq.heap.size,0,none⟩) 1 1]).run Tryz.prog (wq.alloc (.cells #[.string sn,.string sp,.string bH,.int .i64 x3,.int .i64 x4,.int .i64 x5,.int .i64 x6] 173))= .ok (.slice (some ⟨g,0,none⟩) (i+1) cA) W2:=D;clear S;go_wp2_with (at_builtin;refine ap_ (.tmp 67) (.tmp 90) 131 D ?_);go_roundw
      ·exact⟨i+1,_,by omega,by go_num,U⟩
      ·simp [intOf];omega
     ·obtain rfl:nD=i:=by omega
      clear R;obtain⟨uD,hu⟩: ∃ q,q=v:=⟨_,rfl⟩
      subst hu;have s9:=(aS.o.low z.o.bel c.o.1).cell 9 rfl
      go_wp2
      clear s9;go_loopw [97] (fun iv wr=> ∃ (i:Nat) (v:Value) (L:List REl),i<=nR/\iv= .int .i64 i/\Hd (TS M wn bo wr vS uP uD v (.slice none 0 0) (.slice none 0 0) nP nD i 0 0 L)) (fun iv _=>nR-(intOf iv).toNat)
      ·exact⟨0,_,[],Nat.zero_le _,rfl,z⟩
      ·clear z;obtain⟨i,v,L,hi,rfl,z⟩:=hrel;have R:=aL.o _ z.o.bel;by_cases aM:i<nR
       ·have aW:(i:Int)<(nR:Int):=by omega
        obtain⟨b,o,r,rfl,bL,Y,⟨A1,m1,d1,f0,bN,fA,fB⟩,⟨A2,m2,d2,f1,bO,dM,cM⟩,⟨A3,m3,d3,f2,bP,fF,fG⟩⟩:=R.rR.get aM;obtain⟨dW,dX,dY⟩:=dV.o r (List.mem_of_getElem? Y);have fH:m1<=100000:=by have:=bN.len;omega
        have fI:m2<=100000:=by have:=bO.len;omega
        have fJ:m3<=100000:=by have:=bP.len;omega
        have E1:=H_ bN.len;have E2:=H_ bO.len;have E3:=H_ bP.len;clear dW dX dY;obtain⟨wa,ba,aJ,a,F,Z⟩:=box1 wr 51 [.slice A1 m1 d1,.slice A2 m2 d2,.slice A3 m3 d3];obtain⟨q0,q1,q2⟩:=c_3 Z;have T:=H_ (R.below F);have J:=H_ (z.o.below F);have Q:=H_ (aX.o.low J.o.bel c.o.2.2.1);have G:=Z.lt;have R1:=H_ (bN.below F);have R2:=H_ (bO.below F);have R3:=H_ (bP.below F);clear bN bO bP;clear R z F Z;have N:=H_ (List.all_eq_true.1 eJ.o _ (List.mem_of_getElem? Y));obtain⟨bx,ox,sn,rfl,aB,P,g2⟩:=T.o.r3.str (show i<n3 by have:=K3.o;omega);have hx:Hd (bJ_ M i=some ⟨sn,r.stops.map (aO_ M.stops),r.rides,r.stays⟩):=by show _=_;unfold bJ_;rw [Y];simp only;rw [aG_ P]
        have bM:(i:Int)<(n3:Int):=by have:=K3.o;omega
        have c1:=H_ (fun(w:World) (h:Below wa.heap.size wa w)=>lN_ 135 #[.pointer (some ⟨bn,0,none⟩)] (enters_of Tryz.func135 (by kernel_rfl) rfl) (aO_ M.stops) A1 m1 d1 r.stops w (R1.o.below h) (by omega) (fun W x hb hx=>by
         have hk:=List.all_eq_true.1 N.o x hx;obtain⟨j1,j2⟩:=a5_.1 hk;exact lj_ bn 0 n0 c0 a0 M.stops x W (((Q.o.below h).below hb).cell 0 rfl) (((T.o.r0).below h).below hb) j1 (by rw [L0.o] at j2;exact j2)))
        have c2:=H_ (fun(w:World) (h:Below wa.heap.size wa w)=>ez_ A2 m2 d2 r.rides w (R2.o.below h) (by omega));have c3:=H_ (fun(w:World) (h:Below wa.heap.size wa w)=>ez_ A3 m3 d3 r.stays w (R3.o.below h) (by omega));clear Y P
        go_wp2
        refine wM_ wa.heap.size [0,0,0,0,0,0,0,0,0,0,3,0,0,3,0,0,3,4,2,2,2,2] (Nat.le_refl _) ?_;intro C hC;simp only [af_,aV_,Nat.reduceLeDiff,Nat.reduceEqDiff, ↓reduceIte]
        repeat(go_big_quiet_step (first
         |(intro _;with_reducible rfl)
         |(intro y;simp only [(J.o.bx.below y).cell 4 rfl,(Q.o.below y).cell 3 rfl,c_ y G q0,c_ y G q1,c_ y G q2,c_ y aB g2,Result.andThen];exact⟨trivial,rfl⟩)))
        clear hC;intro C' aA;clear aA;intro wq X;replace X:Below wa.heap.size wa wq:=by rw [X];exact⟨rfl,rfl,rfl,Nat.le_refl _,fun _ _=>rfl⟩
        have bD:=H_ X;have bB:=H_ (J.o.bel.size);clear X aJ a N T Q q0 q1 q2 g2;refine as_ (by decide) ?_;go_wp2_with fail;refine(c1.o wq bD.o).mono ?_;rintro e w5 ⟨v1,rfl,cG,cU⟩;have h5:=h_ bD cU;obtain⟨D1,dG,e1,_⟩:=Rd.of_own ad_ (show(r.stops.map (aO_ M.stops)).length =m1 by rw [List.length_map];exact E1.o) cG;subst e1;have O1:=H_ cG;clear cU cG;go_wp2_with fail;refine⟨fun _=>h5.o,?_⟩;refine as_ (by decide) ?_;go_wp2_with fail;refine(c2.o w5 h5.o).mono ?_;rintro e w6 ⟨v2,rfl,cI,bT⟩;have h6:=h_ h5 bT;obtain⟨D2,dH,e2,_⟩:=Rd.of_own aj_ E2.o cI;subst e2;have O2:=H_ cI;have B6:=H_ bT;clear bT cI;go_wp2_with fail;refine⟨fun _=>h6.o,?_⟩;refine as_ (by decide) ?_;go_wp2_with fail;refine(c3.o w6 h6.o).mono ?_;rintro e w7 ⟨v3,rfl,cJ,bU⟩;have h7:=h_ h6 bU;obtain⟨D3,dJ,e3,_⟩:=Rd.of_own aj_ E3.o cJ;subst e3;have O3:=H_ cJ;have B7:=H_ bU;clear bU cJ;go_wp2_with fail;refine⟨fun _=>h7.o,?_⟩
        refine au_ ?_;intro C' aA
        repeat(go_big_quiet_step (first|(intro _;with_reducible rfl)))
        refine wpQuiet_nil ?_;clear aA;refine aM_ _ _ _ (by simp) ?_;simp only [List.map_cons,List.map_nil];have aC:=J.o.below h7.o
        have dF:RowT w7 wn.heap.size ((sn,(D1,m1,dG),(D2,m2,dH),(D3,m3,dJ)):REl) ⟨sn,r.stops.map (aO_ M.stops),r.rides,r.stays⟩:=by
         have g5:=Nat.le_trans bB.o h5.o.size;have g6:=Nat.le_trans bB.o h6.o.size;have gq:=Nat.le_trans bB.o bD.o.size;refine⟨rfl,?_,?_,?_⟩
         ·have:=aB_ (aa_ (aa_ O1.o B6.o) B7.o) gq;show w7.ownsRow _ _ _ _ (r.stops.map (aO_ M.stops)).length _;rw [List.length_map,E1.o];exact this
         ·have:=aB_ (aa_ O2.o B7.o) g5;show w7.ownsRow _ _ _ _ r.rides.length _;rw [E2.o];exact this
         ·have:=aB_ O3.o g6;show w7.ownsRow _ _ _ _ r.stays.length _;rw [E3.o];exact this
        obtain⟨W1,W2,W3,g,cA,k1,k3,S,D,U⟩:=aC.stepR _ _ hx.o dF (by omega);replace U:=H_ U;have v5:=S.cell 4 rfl;have v6:=S.frozen 4;subst k1;have D:(Builtin.append_ #[132,132] 132 #[v,.slice (some ⟨w7.heap.size,0,none⟩) 1 1]).run Tryz.prog (w7.alloc (.cells #[.string sn,.slice D1 m1 dG,.slice D2 m2 dH,.slice D3 m3 dJ] 177))= .ok (.slice (some ⟨g,0,none⟩) (i+1) cA) W2:=D;clear S aC dF J;go_wp2_with (at_builtin;refine ap_ (.tmp 103) (.tmp 120) 132 D ?_);go_roundw
        ·exact⟨i+1,_,_,by omega,by go_num,U⟩
        ·simp [intOf];omega
       ·obtain rfl:nR=i:=by omega
        clear R;obtain⟨uR,hu⟩: ∃ q,q=v:=⟨_,rfl⟩
        subst hu;obtain⟨LR,hu⟩: ∃ q,q=L:=⟨_,rfl⟩
        subst hu;have eU:=(aS.o.low z.o.bel c.o.1).cell 10 rfl
        go_wp2
        clear eU;go_loopw [127] (fun iv wr=> ∃ (i:Nat) (v:Value),i<=nT/\iv= .int .i64 i/\Hd (TS M wn bo wr vS uP uD uR v (.slice none 0 0) nP nD nR i 0 LR)) (fun iv _=>nT-(intOf iv).toNat)
        ·exact⟨0,_,Nat.zero_le _,rfl,z⟩
        ·clear z;obtain⟨i,v,hi,rfl,z⟩:=hrel;have R:=aL.o _ z.o.bel;by_cases aM:i<nT
         ·have aW:(i:Int)<(nT:Int):=by omega
          obtain⟨b,o,⟨x1,x2,x3,x4⟩,rfl,bL,Y,y⟩:=R.rT.get aM;have f0:=y 0 _ rfl;have f1:=y 1 _ rfl;have f2:=y 2 _ rfl;have f3:=y 3 _ rfl;simp only [Nat.add_zero] at f0;clear y;obtain⟨wa,ba,aJ,a,F,Z⟩:=box1 wr 53 [.int .i64 x1,.int .i64 x2,.int .i64 x3,.int .i64 x4];obtain⟨q0,q1,q2,q3⟩:=c_4 Z;have T:=H_ (R.below F);have J:=H_ (z.o.below F);have Q:=H_ (aX.o.low J.o.bel c.o.2.2.1);have G:=Z.lt;clear R z F Z;have N:=List.all_eq_true.1 eK.o _ (List.mem_of_getElem? Y);unfold okT at N;simp only at N;rw [L3.o] at N;obtain⟨j1,j2⟩:=a5_.1 N;obtain⟨p,rfl⟩: ∃ p:Nat,x1=p:=⟨x1.toNat,by omega⟩
          obtain⟨b0,o0,sp,rfl,aF,d,g0⟩:=T.o.r3.str (show p<n3 by omega);obtain⟨bx,ox,sn,rfl,aB,P,g2⟩:=T.o.r4.str (show i<n4 by have:=K4.o;omega);have hx:bP_ M i=some ⟨sn,sp,x2,x3,x4⟩:=by unfold bP_;rw [Y];simp only;rw [aG_ P,aG_ d]
          have bM:(i:Int)<(n4:Int):=by have:=K4.o;omega
          clear N j1 Y d P
          go_wp2
          refine wl_ [0,0,0,0,0,0,0,0,0,0,0,0,0,0,0,0,0,0,0,0,2,2,2,2] ?_;intro C hC;simp only [af_,Nat.reduceEqDiff, ↓reduceIte]
          repeat(go_big_quiet_step (first
           |(intro _;with_reducible rfl)
           |(intro y;simp only [(J.o.bx.below y).cell 5 rfl,(Q.o.below y).cell 4 rfl,(Q.o.below y).cell 3 rfl,c_ y G q0,c_ y G q1,c_ y G q2,c_ y G q3,c_ y aB g2,c_ y aF g0,Result.andThen];exact⟨trivial,rfl⟩)))
          clear hC;intro C' aA;clear aA;intro wq X;have aC:=H_ (J.o.below X);clear aJ a J T Q X;obtain⟨W1,W2,W3,g,cA,k1,k3,S,D,U⟩:=(aC.o.stepT hx (fun j hj=>bA.o j (by omega)) (by omega))
          replace U:=H_ U;have v5:=S.cell 5 rfl;have v6:=S.frozen 5;subst k1;have D:(Builtin.append_ #[133,133] 133 #[v,.slice (some ⟨wq.heap.size,0,none⟩) 1 1]).run Tryz.prog (wq.alloc (.cells #[.string sn,.string sp,.int .i64 x2,.int .i64 x3,.int .i64 x4] 179))= .ok (.slice (some ⟨g,0,none⟩) (i+1) cA) W2:=D;clear S;go_wp2_with (at_builtin;refine ap_ (.tmp 133) (.tmp 152) 133 D ?_);go_roundw
          ·exact⟨i+1,_,by omega,by go_num,U⟩
          ·simp [intOf];omega
         ·obtain rfl:nT=i:=by omega
          clear R;obtain⟨uT,hu⟩: ∃ q,q=v:=⟨_,rfl⟩
          subst hu;have eV:=(aS.o.low z.o.bel c.o.1).cell 11 rfl
          go_wp2
          clear eV;go_loopw [159] (fun iv wr=> ∃ (i:Nat) (v:Value),i<=nH/\iv= .int .i64 i/\Hd (TS M wn bo wr vS uP uD uR uT v nP nD nR nT i LR)) (fun iv _=>nH-(intOf iv).toNat)
          ·exact⟨0,_,Nat.zero_le _,rfl,z⟩
          ·clear z;obtain⟨i,v,hi,rfl,z⟩:=hrel;have R:=aL.o _ z.o.bel;by_cases aM:i<nH
           ·have aW:(i:Int)<(nH:Int):=by omega
            obtain⟨b,o,⟨x1,x2,x3,x4,x5⟩,rfl,bL,Y,y⟩:=R.rH.get aM;have f0:=y 0 _ rfl;have f1:=y 1 _ rfl;have f2:=y 2 _ rfl;have f3:=y 3 _ rfl;have f4:=y 4 _ rfl;simp only [Nat.add_zero] at f0;clear y;obtain⟨wa,ba,aJ,a,F,Z⟩:=box1 wr 108 [.bool x1,.int .i64 x2,.int .i64 x3,.int .i64 x4,.int .i64 x5];obtain⟨q0,q1,q2,q3,q4⟩:=c_5 Z;have T:=H_ (R.below F);have J:=H_ (z.o.below F);have Q:=H_ (aX.o.low J.o.bel c.o.2.2.1);have G:=Z.lt;clear R z F Z;have N:=List.all_eq_true.1 eG.o _ (List.mem_of_getElem? Y);unfold okH at N;simp only at N;rw [L0.o,L1.o] at N;obtain⟨bx,ox,sn,rfl,aB,P,g2⟩:=T.o.r5.str (show i<n5 by have:=K5.o;omega);have bM:(i:Int)<(n5:Int):=by have:=K5.o;omega
            cases x1 with
            |true=>
             simp only [if_true,if_false,Bool.false_eq_true] at N;obtain⟨j1,j2⟩:=a5_.1 N;obtain⟨p,rfl⟩: ∃ p:Nat,x2=p:=⟨x2.toNat,by omega⟩
             obtain⟨b0,o0,sp,rfl,aF,d,g0⟩:=T.o.r0.str (show p<n0 by omega);have hx:bv_ M i=some ⟨sn,sp,x3,x4,x5⟩:=by unfold bv_;rw [Y];simp only [if_true,if_false,Bool.false_eq_true];rw [aG_ P,aG_ d]
             have m0:=Q.o.cell 0 rfl;have cF:=Q.o.cell 1 rfl;clear N j1 Y d P
             go_wp2
             refine wl_ [0,0,0,0,0,0,0,0,0,0,0,0,0,0,0,2,2,2,2] ?_;intro C hC;simp only [af_,Nat.reduceEqDiff, ↓reduceIte]
             repeat(go_big_quiet_step (first
              |(intro _;with_reducible rfl)
              |(intro y;simp only [(J.o.bx.below y).cell 6 rfl,(Q.o.below y).cell 5 rfl,c_ y G q0,c_ y G q1,c_ y G q2,c_ y G q3,c_ y G q4,c_ y aB g2,c_ y aF g0,Result.andThen];exact⟨trivial,rfl⟩)))
             clear hC;intro C' aA;clear aA;intro wq X;have aC:=H_ (J.o.below X);clear aJ a J T Q X m0 cF;obtain⟨W1,W2,W3,g,cA,k1,k3,S,D,U⟩:=(aC.o.stepH hx (fun j hj=>aU.o j (by omega)) (by omega))
             replace U:=H_ U;have v5:=S.cell 6 rfl;have v6:=S.frozen 6;subst k1;have D:(Builtin.append_ #[134,134] 134 #[v,.slice (some ⟨wq.heap.size,0,none⟩) 1 1]).run Tryz.prog (wq.alloc (.cells #[.string sn,.string sp,.int .i64 x3,.int .i64 x4,.int .i64 x5] 181))= .ok (.slice (some ⟨g,0,none⟩) (i+1) cA) W2:=D;clear S;go_wp2_with (at_builtin;refine ap_ (.tmp 171) (.tmp 185) 134 D ?_);go_roundw
             ·exact⟨i+1,_,by omega,by go_num,U⟩
             ·simp [intOf];omega
            |false=>
             simp only [if_true,if_false,Bool.false_eq_true] at N;obtain⟨j1,j2⟩:=a5_.1 N;obtain⟨p,rfl⟩: ∃ p:Nat,x2=p:=⟨x2.toNat,by omega⟩
             obtain⟨b0,o0,sp,rfl,aF,d,g0⟩:=T.o.r1.str (show p<n1 by omega);have hx:bv_ M i=some ⟨sn,sp,x3,x4,x5⟩:=by unfold bv_;rw [Y];simp only [if_true,if_false,Bool.false_eq_true];rw [aG_ P,aG_ d]
             have m0:=Q.o.cell 0 rfl;have cF:=Q.o.cell 1 rfl;clear N j1 Y d P
             go_wp2
             refine wl_ [0,0,0,0,0,0,0,0,0,0,0,0,0,0,0,2,2,2,2] ?_;intro C hC;simp only [af_,Nat.reduceEqDiff, ↓reduceIte]
             repeat(go_big_quiet_step (first
              |(intro _;with_reducible rfl)
              |(intro y;simp only [(J.o.bx.below y).cell 6 rfl,(Q.o.below y).cell 5 rfl,c_ y G q0,c_ y G q1,c_ y G q2,c_ y G q3,c_ y G q4,c_ y aB g2,c_ y aF g0,Result.andThen];exact⟨trivial,rfl⟩)))
             clear hC;intro C' aA;clear aA;intro wq X;have aC:=H_ (J.o.below X);clear aJ a J T Q X m0 cF;obtain⟨W1,W2,W3,g,cA,k1,k3,S,D,U⟩:=(aC.o.stepH hx (fun j hj=>aU.o j (by omega)) (by omega))
             replace U:=H_ U;have v5:=S.cell 6 rfl;have v6:=S.frozen 6;subst k1;have D:(Builtin.append_ #[134,134] 134 #[v,.slice (some ⟨wq.heap.size,0,none⟩) 1 1]).run Tryz.prog (wq.alloc (.cells #[.string sn,.string sp,.int .i64 x3,.int .i64 x4,.int .i64 x5] 181))= .ok (.slice (some ⟨g,0,none⟩) (i+1) cA) W2:=D;clear S;go_wp2_with (at_builtin;refine ap_ (.tmp 171) (.tmp 185) 134 D ?_);go_roundw
             ·exact⟨i+1,_,by omega,by go_num,U⟩
             ·simp [intOf];omega
           ·obtain rfl:nH=i:=by omega
            clear R;obtain⟨uH,hu⟩: ∃ q,q=v:=⟨_,rfl⟩
            subst hu;have cC:(aI_ (bO_ M) nP).length =nP:=aw_ aZ.o nP (Nat.le_refl _);have bZ:(aI_ (bN_ M) nD).length =nD:=aw_ aY.o nD (Nat.le_refl _);have cE:(aI_ (bP_ M) nT).length =nT:=aw_ bA.o nT (Nat.le_refl _);have cB:(aI_ (bv_ M) nH).length =nH:=aw_ aU.o nH (Nat.le_refl _);have h:=z.o;obtain⟨AS,xS,eS,_⟩:=Rd.of_own ad_ rfl h.oS;obtain⟨AP,xP,eP,_⟩:=Rd.of_own dk_ cC h.oP;obtain⟨AD,xD,eD,_⟩:=Rd.of_own di_ bZ h.oD;obtain⟨AR,xR,eR,_⟩:=Rd.of_own dY_ h.tR.len h.oR;obtain⟨AT,xT,eT,_⟩:=Rd.of_own dl_ cE h.oT;obtain⟨AH,xH,eH,_⟩:=Rd.of_own da_ cB h.oH;subst eS eP eD eR eT eH;have aE:=cN.o.low h.bel c.o.2.1;obtain⟨bK,aI⟩:=aE.row [.int .i64 M.hz,.slice AS M.stops.length xS,.slice AP nP xP,.slice AD nD xD,.slice AR nR xR,.slice AT nT xT,.slice AH nH xH]
            obtain⟨wF,bY⟩:=e_ (wr.setRow b2 (List.toArray [.int .i64 M.hz,.slice AS M.stops.length xS,.slice AP nP xP,.slice AD nD xD,.slice AR nR xR,.slice AT nT xT,.slice AH nH xH]));rw [bY] at bK aI
            have aG:RS wF (b4_ M) ⟨AS,AP,AD,AR,AT,AH,M.stops.length,nP,nD,nR,nT,nH,xS,xP,xD,xR,xT,xH⟩:=by
             refine⟨bl_ ad_ rfl (ae_ h.oS aE (by decide) aI),?_,?_,?_,?_,?_⟩
             ·show Rd _ _ _ _ _ (aI_ (bO_ M) M.paths.length);rw [LP.o];exact bl_ dk_ cC (ae_ h.oP aE (by decide) aI)
             ·show Rd _ _ _ _ _ (aI_ (bN_ M) M.doors.length);rw [LD.o];exact bl_ di_ bZ (ae_ h.oD aE (by decide) aI)
             ·show bD_ _ _ _ (aI_ (bJ_ M) M.routes.length);rw [bJ.o];exact(h.tR.up (fun _ _ _ _ _ _ he _ h=>ae_ h aE (by rcases he with rfl|rfl<;>decide) aI)).done (bl_ dY_ h.tR.len (ae_ h.oR aE (by decide) aI)) bS.o
             ·show Rd _ _ _ _ _ (aI_ (bP_ M) M.trips.length);rw [LT.o];exact bl_ dl_ cE (ae_ h.oT aE (by decide) aI)
             ·show Rd _ _ _ _ _ (aI_ (bv_ M) M.hazs.length);rw [LH.o];exact bl_ da_ cB (ae_ h.oH aE (by decide) aI)
            have h0:=b_ cY h.bel;have bV:=H_ (h0.trans (aI.below h0.size (m_ c.o.2.2.2)));replace aG:=H_ aG;replace aE:=H_ aE;replace bK:=H_ bK;have aB:=H_ h.bx;clear aI cC bZ cE cB h h0 z;go_upto_region 31 with fail;refine wp_region_lit ?_;refine cO_ (.tmp 4) 136 rfl rfl rfl aB.o (by kernel_rfl) (by kernel_rfl) ?_;refine ac_ (.tmp 2) (.tmp 189) 136 rfl rfl rfl rfl aE.o (by kernel_rfl) rfl rfl bY ?_;refine wpList_nil ?_;clear bY aB;rename_i dP;refine dP _ _ (wp_ret ?_);refine ar_ (s:=2) (t:=136) rfl rfl bK.o (by kernel_rfl) (by kernel_rfl) rfl ?_;exact⟨⟨AS,AP,AD,AR,AT,AH,M.stops.length,nP,nD,nR,nT,nH,xS,xP,xD,xR,xT,xH⟩,by simp only [sVal,b4_],aG.o,bV.o⟩
