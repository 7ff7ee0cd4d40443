/- Merged. -/
import Derived.Test.YtechdefolfboeaaGreatDoorPd5
import Derived.Test.YtechdefolfboeaaGreatDoorPd39
set_option linter.unusedVariables false
set_option linter.unusedSimpArgs false
set_option maxHeartbeats 4000000
namespace Go.Proofs.YtechdefolfboeaaGreatDoor
open Go.RowKit B
set_option maxRecDepth 100000 in
theorem or_ (W:ab_) (V:WV) (we:World) (hr:RW we W V) (hf:Few W) (hw:bS_ W=true):
 Calls Tryz.prog 112 #[wVal W V] we (ke_ W we):=by
 obtain⟨a0,a1,a2,a3,a4,a5,aP,aD,aR,aT,aH,n0,n1,n2,n3,n4,n5,nP,nD,nR,nT,nH,c0,c1,c2,c3,c4,c5,cP,cD,cR,cT,cH⟩:=V
 obtain⟨l0,l1,l2,l3,l4,l5,lP,lD,lR,lT,lH⟩:W.stops.length=n0/\W.nPaths.length=n1/\W.nDoors.length=n2/\W.nRoutes.length=n3/\W.nTrips.length=n4/\W.nHazs.length=n5/\W.paths.length=nP/\W.doors.length=nD/\W.routes.length=nR/\W.trips.length=nT/\W.hazs.length=nH:=
  ⟨hr.r0.len,hr.r1.len,hr.r2.len,hr.r3.len,hr.r4.len,hr.r5.len,hr.rP.len,hr.rD.len,hr.rR.len,hr.rT.len,hr.rH.len⟩
 have kA:n0<=100000:=by have:=hf.s0;omega
 have mP:nP<=100000:=by have:=hf.sP;omega
 have mD:nD<=100000:=by have:=hf.sD;omega
 have mR:nR<=100000:=by have:=hf.sR;omega
 have mT:nT<=100000:=by have:=hf.sT;omega
 have mH:nH<=100000:=by have:=hf.sH;omega
 unfold bS_ b2_ at hw;simp only [Bool.and_eq_true,decide_eq_true_eq] at hw;obtain⟨⟨⟨⟨⟨⟨q1,q2,q3,q4,q5⟩,wP⟩,wD⟩,wR⟩,wT⟩,wH⟩:=hw;have iM:=H_ wP;have iK:=H_ wD;have iN:=H_ wR;have iO:=H_ wT;have iL:=H_ wH;have K1:Hd (n1=nP):=by show _=_;omega
 have K2:Hd (n2=nD):=by show _=_;omega
 have K3:Hd (n3=nR):=by show _=_;omega
 have K4:Hd (n4=nT):=by show _=_;omega
 have K5:Hd (n5=nH):=by show _=_;omega
 have dC:Hd (∀ i,i<nP ->(bO_ W i).isSome):=fun i hi=>by unfold bO_;rw [List.getElem?_eq_getElem (by omega)];rfl
 have dB:Hd (∀ i,i<nD ->(bN_ W i).isSome):=fun i hi=>by unfold bN_;rw [List.getElem?_eq_getElem (by omega)];rfl
 have eG:Hd (∀ i,i<nR ->(bJ_ W i).isSome):=fun i hi=>by unfold bJ_;rw [List.getElem?_eq_getElem (by omega)];rfl
 have dD:Hd (∀ i,i<nT ->(bP_ W i).isSome):=fun i hi=>by unfold bP_;rw [List.getElem?_eq_getElem (by omega)];rfl
 have cF:Hd (∀ i,i<nH ->(bv_ W i).isSome):=fun i hi=>by unfold bv_;rw [List.getElem?_eq_getElem (by omega)];rfl
 have hK:=H_ hf.sr;have L0:=H_ l0;have L1:=H_ l1;have L3:=H_ l3;have LP:=H_ lP;have LD:=H_ lD;have LR:=H_ lR;have LT:=H_ lT;have LH:=H_ lH;obtain⟨hz,eL⟩:=e_ W.hz;have gG:=H_ eL;simp only [wVal];rw [eL];obtain⟨w1,dQ,aC,B1⟩:=box0 we 31 [.int .i64 hz,.slice a0 n0 c0,.slice a1 n1 c1,.slice a2 n2 c2,.slice a3 n3 c3,.slice a4 n4 c4,.slice a5 n5 c5,.slice aP nP cP,.slice aD nD cD,.slice aR nR cR,.slice aT nT cT,.slice aH nH cH];obtain⟨wq,gC,J,Bq⟩:=box0 w1 136 [.int .i64 0,.slice none 0 0,.slice none 0 0,.slice none 0 0,.slice none 0 0,.slice none 0 0,.slice none 0 0];obtain⟨w2,eU,bX,B2⟩:=box0 wq 24 [.slice a0 n0 c0,.slice a1 n1 c1,.slice a2 n2 c2,.slice a3 n3 c3,.slice a4 n4 c4,.slice a5 n5 c5];have cX:=(B1.below J).below bX;have dW:=Bq.below bX;obtain⟨bn,cU⟩:=e_ we.heap.size;obtain⟨bq,eO⟩:=e_ (bn+1);obtain⟨bb,eQ⟩:=e_ (bq+1);have dF:w1.heap.size=bq:=by rw [<-eO, <-cU, <-dQ];simp
 have fT:wq.heap.size=bb:=by rw [<-eQ, <-dF, <-gC];simp
 have fU:Hd (we.heap.size<=bq):=by have:=aC.size;show _<=_;omega
 rw [cU] at cX B1;rw [dF] at dW Bq;rw [fT] at B2;have Z:Hd (∀ U,Below w2.heap.size w2 U ->Below we.heap.size we U):=fun U hU=>u_ aC (J.trans ((bX.trans (hU.mono bX.size)).mono J.size));have hR:=((hr.below aC).below J).below bX;have cJ:Hd (Rd w2 1 strE a0 n0 W.stops):=hR.r0;have fY:Hd (Rd w2 1 strE a1 n1 W.nPaths):=hR.r1;have hS:Hd (Rd w2 1 strE a2 n2 W.nDoors):=hR.r2;have fZ:Hd (Rd w2 1 strE a3 n3 W.nRoutes):=hR.r3;have hV:Hd (Rd w2 1 strE a4 n4 W.nTrips):=hR.r4;have hW:Hd (Rd w2 1 strE a5 n5 W.nHazs):=hR.r5;have hZ:Hd (Rd w2 3 az_ aP nP W.paths):=hR.rP;have hX:Hd (Rd w2 6 aJ_ aD nD W.doors):=hR.rD;have iA:Hd (cI_ w2 aR nR W.routes):=hR.rR;have iB:Hd (Rd w2 4 aL_ aT nT W.trips):=hR.rT;have hY:Hd (Rd w2 5 hazE aH nH W.hazs):=hR.rH;obtain⟨p0,p1,p2,p3,p4,p5,p6⟩:=c_7 B1;have iS:=(B1.below J).cell 1 rfl;have iT:=(B1.below J).cell 2 rfl;have iU:=(B1.below J).cell 3 rfl
 have iV:=(B1.below J).cell 4 rfl;have iW:=(B1.below J).cell 5 rfl;have iX:=(B1.below J).cell 6 rfl;clear l0 l1 l2 l3 l4 l5 lP lD lR lT lH hr hf eL aC bX J B1 Bq q1 q2 q3 q4 q5 wP wD wR wT wH hR;go_enter Tryz.func112,Tryz.ntmps112;go_upto_region 2 with fail
 try simp only [eO,eQ]
 clear eO eQ;clear dQ gC eU cU dF fT p0 p1 p2 p3 p4 p5 p6 iS iT iU iV iW iX;have y1:=cX.cell 0 rfl;have y2:=B2.cell 0 rfl;have cW:=cX.lt;have dM:=B2.lt
 go_wp2
 refine a0_ (fun fl x w=>GS w2 [(fl 2,x 2,KNil w2.heap.size 9 1),(fl 5,x 5,KOwn w2.heap.size 9 1 n0 (W.stops.flatMap strE)),(fl 7,x 7,KBox w2.heap.size 136 [.int .i64 0,.slice none 0 0,.slice none 0 0,.slice none 0 0,.slice none 0 0,.slice none 0 0,.slice none 0 0])] [(fl 5,fl 2)] [fl 5] (fl 6) (x 6) (x 7) 136 [.int .i64 hz,(x 5),.slice none 0 0,.slice none 0 0,.slice none 0 0,.slice none 0 0,.slice none 0 0] (fl 8) w) (by kernel_rfl) (by kernel_rfl) (by kernel_rfl) (by kernel_rfl) (by kernel_rfl) ?_ ?_
 ·intro x0;refine GS.start ?_ ?_ ?_ rfl rfl
  ·intro e he;simp only [List.mem_cons,List.not_mem_nil,or_false] at he;rcases he with rfl|rfl|rfl<;>first|exact KNil.mono _ _ _|exact KOwn.mono _ _ _ _ _|exact KBox.mono _ _ _
  ·intro e he;simp only [List.mem_cons,List.not_mem_nil,or_false] at he;rcases he with rfl|rfl|rfl<;>rfl
  ·intro e he;simp only [List.mem_cons,List.not_mem_nil,or_false] at he;rcases he with rfl<;>rfl
 intro base O bM hO;have N:Hd (∀ M,evX base O M (.tmp 1)= .pointer (some ⟨bn,0,none⟩)/\evX base O M (.tmp 3)= .pointer (some ⟨bb,0,none⟩)/\evX base O M (.tmp 4)=M 7/\evX base O M (.tmp 15)=M 0/\evX base O M (.tmp 16)=M 1/\evX base O M (.tmp 17)=M 2/\evX base O M (.tmp 18)=M 3/\evX base O M (.tmp 19)=M 4/\evX base O M (.tmp 20)=M 5/\evX base O M (.tmp 21)=M 6):=fun M=>by rw [bM,hO];exact⟨rfl,rfl,rfl,rfl,rfl,rfl,rfl,rfl,rfl,rfl⟩
 clear bM hO;apply gd_ (n:=0);rfl
 ·intro _ g w _ m n _ _ r _ K t;have e1:=(r _).trans (N.o g).1;clear r n;go_simp;exact t _ _ rfl m
 apply gd_ (n:=1);rfl
 ·intro _ g w _ m n _ _ r _ K t;have d0:=n.at_ 0 rfl rfl;have jW:=(r _).trans ((N.o g).2.2.2.1.trans d0);clear r n;have m0:=c_ m.bel cW y1;go_simp;exact t _ _ rfl m
 refine ga_ (n:=2) (fun _=>True) ?_ ?_
 ·intro _ _ w _ m n p _ r _ K t;clear r n;have d:=KNil.new w w2.heap.size 9 1 m.bel.size;go_simp;exact t _ _ trivial (m.stepO 0 rfl p (ag_ _ _ _) d (a4_ (fun _=>rfl) bk_))
 apply gd_ (n:=3);rfl
 ·intro _ g w _ m n _ _ r _ K t;have e3:=(r _).trans (N.o g).2.1;clear r n;go_simp;exact t _ _ rfl m
 apply gd_ (n:=4);rfl
 ·intro _ g w _ m n _ _ r _ K t;have d3:=n.at_ 3 rfl rfl;have jY:=(r _).trans ((q4_ (N.o g)).2.2.1.trans d3);clear r n;have m0:=c_ m.bel dM y2;go_simp;exact t _ _ rfl m
 refine ga_ (n:=5) (fun _=>True) ?_ ?_
 ·intro _ g w _ m n p q r _ K t;have gS:=(r _).trans (q4_ (N.o g)).2.1;have d4:=n.at_ 4 rfl rfl;have gT:=(r _).trans ((q4_ (N.o g)).2.2.2.1.trans d4);clear r n;obtain⟨fV,aN⟩:=m.ahead 1 rfl p;obtain⟨gq,aW,bF⟩:=aN.get 0 rfl (al_ q 2 rfl);rw [aW] at bF;have cA:=cJ.o.below m.bel;have bY:=m.bel.size;obtain⟨vq,wq,F,cB,aC⟩:=dw_ Tryz.underlying22 ax_ rfl (by decide) ad_ c0 bF cA (by omega) (by decide) bY;exact cN_ (.tmp 17) (.tmp 19) 22 rfl (gS.trans aW) gT F (t _ _ trivial (m.step 1 rfl p (by simp) aC cB (a4_ (fun _=>al_ q 2 rfl) bk_)))
 refine ga_ (n:=6) (fun _=>True) ?_ ?_
 ·intro _ g w _ m n p q r _ K t;have d1:=n.at_ 1 rfl rfl;have jX:=(r _).trans ((N.o g).2.2.2.2.1.trans d1);have gU:=(r _).trans (q4_ (q4_ (N.o g))).1;clear r n;obtain⟨jV,dK⟩:=m.wit 1 rfl (al_ q 5 rfl);obtain⟨fI,fJ,bU,_⟩:=Rd.of_own ad_ L0.o dK;rw [bU] at gU;clear dK;have d:=m.built (xb':= .agg (List.toArray [.int .i64 hz,(g 5),.slice none 0 0,.slice none 0 0,.slice none 0 0,.slice none 0 0,.slice none 0 0])) p (by simp [al_ q 5 rfl]) rfl;go_simp;rw [<-bU];exact t _ _ trivial d
 refine ga_ (n:=7) (fun _=>True) ?_ ?_
 ·intro f _ w _ m n p _ r _ K t;clear r n;have d:=m.bel.size;go_simp;exact t _ _ trivial (m.stepO 2 rfl p (ag_ _ _ _) ⟨_,rfl,d,Bx.new w _ _⟩ (a4_ (m.im (f 5,f 2) (by simp)) bk_))
 refine ga_ (n:=8) (fun _=>True) ?_ ?_
 ·intro f g w _ m n p q r _ K t;have e4:=(r _).trans (N.o g).2.2.1;have eC:=(r _).trans (q4_ (q4_ (N.o g))).2;clear r n;have aN:=m.ini p;obtain⟨gq,aW,eN,J⟩:=aN.get 2 rfl (al_ q 7 rfl);obtain⟨aK,eI⟩:=m.bd (al_ q 6 rfl);obtain⟨fI,fJ,bU,_⟩:=Rd.of_own ad_ L0.o (aN.get 1 rfl (aK _ (by simp)));have dA: ∀ e∈[f 2,f 5,f 7],e=true:=by simp [al_ q 7 rfl,aK (f 5) (by simp),(show f 2=true from m.im (f 5,f 2) (by simp) (aK _ (by simp)))]
  exact aP_ (.tmp 4) (.tmp 21) 136 rfl (e4.trans aW) (eC.trans eI) J (by kernel_rfl) rfl (by simp [bU,Value.oneCell']) (fun w' hB cZ=>t _ _ trivial (m.put p (al_ q 6 rfl) (by simpa using dA) aW eN J.lt hB cZ))
 clear N;intro M bH hG hI;clear hI;have dE:=hG.bel;obtain⟨wa,bo,aN,eK,cU,hJ,c,j⟩:=hG.fin rfl;clear hG;have q0:=aN.get 0 rfl rfl;have q1:=aN.get 1 rfl rfl;have q2:=aN.get 2 rfl rfl;simp only [List.append_eq,List.cons_append,List.nil_append,aA_,List.setIfInBounds_toArray,List.set_cons_zero,List.set_cons_succ,Nat.zero_add,Nat.reduceAdd];obtain⟨uS,gB⟩: ∃ q,q=M 5:=⟨_,rfl⟩
 rw [<-gB] at c q1;obtain⟨bz,dG,_,cQ⟩:=q2;rw [eK] at dG;cases dG;have aM:Hd (bH.ownsRow w2.heap.size 9 1 uS n0 (W.stops.flatMap strE)):=ae_ q1 cQ (by decide) j;have c:Hd (Bx bH bo 136 [.int .i64 hz,uS,.slice none 0 0,.slice none 0 0,.slice none 0 0,.slice none 0 0,.slice none 0 0]):=c;have a:Hd (bo<bH.heap.size):=c.o.lt;have aI:Hd (∀ U,But bH U [bo] ->Below w2.heap.size w2 U):=fun U hU=>dE.trans (hU.below dE.size (m_ cU));have aV:Hd (∀ U,But bH U [bo] ->Bx U bn 31 [.int .i64 hz,.slice a0 n0 c0,.slice a1 n1 c1,.slice a2 n2 c2,.slice a3 n3 c3,.slice a4 n4 c4,.slice a5 n5 c5,.slice aP nP cP,.slice aD nD cD,.slice aR nR cR,.slice aT nT cT,.slice aH nH cH]/\Bx U bb 24 [.slice a0 n0 c0,.slice a1 n1 c1,.slice a2 n2 c2,.slice a3 n3 c3,.slice a4 n4 c4,.slice a5 n5 c5]):=fun U hU=>⟨cX.below (aI.o U hU),B2.below (aI.o U hU)⟩
 have hF:Hd (∀ U,But bH U [bo] ->Bx U bq 136 [.int .i64 0,.slice none 0 0,.slice none 0 0,.slice none 0 0,.slice none 0 0,.slice none 0 0,.slice none 0 0]):=fun U hU=>dW.below (aI.o U hU);have R:Hd (But bH bH [bo]):=But.refl _ _;rw [eK];clear q0 q1 eK aN cQ gB j dE cU hJ y1 y2 cW dM cX B2 dW
 go_wp2
 go_loopw [5] (fun iv wr=> ∃ (i:Nat) (u:Value),i<=nP/\iv= .int .i64 i/\Hd (Bx wr bo 136 [.int .i64 hz,uS,u,.slice none 0 0,.slice none 0 0,.slice none 0 0,.slice none 0 0])/\Hd (wr.ownsRow bH.heap.size 171 4 u i ((aI_ (bO_ W) i).flatMap aR_))/\Hd (But bH wr [bo])) (fun iv _=>nP-(intOf iv).toNat)
 ·exact⟨0,.slice none 0 0,Nat.zero_le _,rfl,c,World.ownsRow_nil _ _ _ _,But.refl _ _⟩
 ·obtain⟨i,u,hi,rfl,y,own,j⟩:=hrel;obtain⟨P,Q⟩:=aV.o _ (R.o.trans j.o);have y0:=P.cell 7 rfl;clear P Q;by_cases aX:i<nP
  ·have cL:(i:Int)<(nP:Int):=by omega
   obtain⟨b,o,x1,x2,x3,rfl,S,aE,f0,f1,f2⟩:=hZ.o.trip aX;have Y:=List.all_eq_true.1 iM.o _ (List.mem_of_getElem? aE);unfold okP at Y;rw [Bool.and_eq_true] at Y;obtain⟨bS,bT⟩:=Y;simp only at bS bT;rw [L0.o] at bS bT;obtain⟨j1,j2⟩:=a5_.1 bS;obtain⟨p,rfl⟩: ∃ p:Nat,x1=p:=⟨x1.toNat,by omega⟩
   obtain⟨j3,j4⟩:=a5_.1 bT;obtain⟨q,rfl⟩: ∃ p:Nat,x2=p:=⟨x2.toNat,by omega⟩
   obtain⟨b0,o0,sp,e0,aZ,aQ,g0⟩:=cJ.o.str (k:=p) (by omega);obtain⟨gH,iR,sq,eB,_,dL,g1⟩:=cJ.o.str (k:=q) (by omega);obtain⟨b1,o1,sn,rfl,aC,aB,g2⟩:=fY.o.str (k:=i) (by have:=K1.o;omega);subst e0;cases eB;have hx:bO_ W i=some ⟨sn,sp,sq,x3⟩:=by unfold bO_;rw [aE];simp only;rw [aG_ aB,aG_ aQ,aG_ dL]
   have dP:(i:Int)<(n1:Int):=by have:=K1.o;omega
   clear bS bT j1 j3 aE aQ dL aB
   go_wp2
   refine wl_ [0,0,0,0,0,0,0,0,0,0,0,0,0,0,0,0,0,0,0,0,0,0,0,0,0,0,0,0,0,0,0,0,0,0,2,2,2,2] ?_;intro C hC;simp only [af_,Nat.reduceEqDiff, ↓reduceIte]
   repeat(go_big_quiet_step (first
    |(intro _;with_reducible rfl)
    |(intro hc;have hR:=R.o.trans (j.o.trans (But.of_below hc _));obtain⟨P,Q⟩:=aV.o _ hR;have D:=aI.o _ hR;simp only [(y.o.below hc).cell 2 rfl,Q.cell 1 rfl,Q.cell 0 rfl,P.cell 7 rfl,c_ D aC g2,c_ D aZ g0,c_ D aZ g1,c_ D S f0,c_ D S f1,c_ D S f2,Result.andThen];exact⟨trivial,rfl⟩)))
   clear hC;intro C' bL;clear bL;intro wq J;have aY:=bC_ hx;have aA:=aw_ dC.o i (by omega);obtain⟨W1,W2,W3,va,vb,h1,h2,h3,⟨_,b2,b3⟩,⟨_,_,t3⟩,_,F,G,gv,cv,bC⟩:=ci_ (enc:=aR_) Tryz.underlying130 gg_ rfl (by decide) dk_ ho_ (by decide) (f:=2) (T:=136) _ (y.o.below J) (aa_ own.o J) aA (by omega) a.o (j.o.trans (But.of_below J _));rw [<-aY] at G;have G:=H_ G;have bA:Hd (Bx W3 bo 136 [.int .i64 hz,uS,vb,.slice none 0 0,.slice none 0 0,.slice none 0 0,.slice none 0 0]):=b3;have bB:=H_ t3;have v5:=b2.cell 2 rfl;have v6:=b2.frozen 2;subst h1 h2 bC;have F:(Builtin.append_ #[130,130] 130 #[u,.slice (some ⟨wq.heap.size,0,none⟩) 1 1]).run Tryz.prog (wq.alloc (.cells ([.string sn,.string sp,.string sq,.int .i64 x3]).toArray 171))= .ok (.slice (some ⟨gv,0,none⟩) (i+1) cv) W2:=F;rename_i k1 k2 k3 k4;clear k1 k2 k3 k4 aY aA b2 b3 t3 own y j J;go_wp2_with (at_builtin;refine ap_ (.tmp 30) (.tmp 63) 130 F ?_)
   go_roundw
   ·exact⟨i+1,_,by omega,by go_num,bA,G,bB⟩
   ·simp [intOf];omega
  ·obtain rfl:nP=i:=by omega
   have Z: ∀ {e:TypeId} {z n:Nat} {v:Value} {M:List Value} {b:Nat},136≠e ->bH.ownsRow b e z v n M ->wr.ownsRow b e z v n M:=fun he h=>ae_ h c.o he j.o;have aF:=H_ (Z (by decide) aM.o);have aS:=own;have aJ:=H_ (R.o.trans j.o);have aG:=y;have X:Hd (bo<wr.heap.size):=y.o.lt;obtain⟨uP,iE⟩: ∃ q,q=u:=⟨_,rfl⟩
   subst iE;obtain⟨fE,dQ⟩: ∃ q,q=wr:=⟨_,rfl⟩
   subst dQ;clear Z own y j R c a hi aX;clear aM;have aM:=aF;have R:=aJ;have c:=aG;have a:=X;clear aJ aG X aF
   go_wp2
   go_loopw [6] (fun iv wr=> ∃ (i:Nat) (u:Value),i<=nD/\iv= .int .i64 i/\Hd (Bx wr bo 136 [.int .i64 hz,uS,uP,u,.slice none 0 0,.slice none 0 0,.slice none 0 0])/\Hd (wr.ownsRow fE.heap.size 173 7 u i ((aI_ (bN_ W) i).flatMap aQ_))/\Hd (But fE wr [bo])) (fun iv _=>nD-(intOf iv).toNat)
   ·exact⟨0,.slice none 0 0,Nat.zero_le _,rfl,c,World.ownsRow_nil _ _ _ _,But.refl _ _⟩
   ·obtain⟨i,u,hi,rfl,y,own,j⟩:=hrel;obtain⟨P,Q⟩:=aV.o _ (R.o.trans j.o);have y0:=P.cell 8 rfl;clear P Q;by_cases aX:i<nD
    ·have cL:(i:Int)<(nD:Int):=by omega
     obtain⟨b,o,⟨x1,x2,x3,df,de,du⟩,rfl,S,aE,hc⟩:=hX.o.get aX;have f0:=hc 0 _ rfl;have f1:=hc 1 _ rfl;have f2:=hc 2 _ rfl;have f3:=hc 3 _ rfl;have f4:=hc 4 _ rfl;have f5:=hc 5 _ rfl;simp only [Nat.add_zero] at f0 f1 f2 f3 f4 f5;have Y:=List.all_eq_true.1 iK.o _ (List.mem_of_getElem? aE);unfold okD at Y;rw [Bool.and_eq_true] at Y;obtain⟨bS,bT⟩:=Y;simp only at bS bT;rw [L0.o] at bS bT;obtain⟨j1,j2⟩:=a5_.1 bS;obtain⟨p,rfl⟩: ∃ p:Nat,x1=p:=⟨x1.toNat,by omega⟩
     obtain⟨j3,j4⟩:=a5_.1 bT;obtain⟨q,rfl⟩: ∃ p:Nat,x2=p:=⟨x2.toNat,by omega⟩
     obtain⟨b0,o0,sp,e0,aZ,aQ,g0⟩:=cJ.o.str (k:=p) (by omega);obtain⟨gH,iR,sq,eB,_,dL,g1⟩:=cJ.o.str (k:=q) (by omega);obtain⟨b1,o1,sn,rfl,aC,aB,g2⟩:=hS.o.str (k:=i) (by have:=K2.o;omega);subst e0;cases eB;have hx:bN_ W i=some ⟨sn,sp,sq,x3,df,de,du⟩:=by unfold bN_;rw [aE];simp only;rw [aG_ aB,aG_ aQ,aG_ dL]
     have dP:(i:Int)<(n2:Int):=by have:=K2.o;omega
     clear bS bT j1 j3 aE aQ dL aB hc
     go_wp2
     refine wl_ [0,0,0,0,0,0,0,0,0,0,0,0,0,0,0,0,0,0,0,0,0,0,0,0,0,0,0,0,0,0,0,0,0,0,0,0,0,0,0,0,2,2,2,2] ?_;intro C hC;simp only [af_,Nat.reduceEqDiff, ↓reduceIte]
     repeat(go_big_quiet_step (first
      |(intro _;with_reducible rfl)
      |(intro hc;have hR:=R.o.trans (j.o.trans (But.of_below hc _));obtain⟨P,Q⟩:=aV.o _ hR;have D:=aI.o _ hR;simp only [(y.o.below hc).cell 3 rfl,Q.cell 2 rfl,Q.cell 0 rfl,P.cell 8 rfl,c_ D aC g2,c_ D aZ g0,c_ D aZ g1,c_ D S f0,c_ D S f1,c_ D S f2,c_ D S f3,c_ D S f4,c_ D S f5,Result.andThen];exact⟨trivial,rfl⟩)))
     clear hC;intro C' bL;clear bL;intro wq J;have aY:=bC_ hx;have aA:=aw_ dB.o i (by omega);obtain⟨W1,W2,W3,va,vb,h1,h2,h3,⟨_,b2,b3⟩,⟨_,_,t3⟩,_,F,G,gv,cv,bC⟩:=ci_ (enc:=aQ_) Tryz.underlying131 gf_ rfl (by decide) di_ hg_ (by decide) (f:=3) (T:=136) _ (y.o.below J) (aa_ own.o J) aA (by omega) a.o (j.o.trans (But.of_below J _));rw [<-aY] at G;have G:=H_ G;have bA:Hd (Bx W3 bo 136 [.int .i64 hz,uS,uP,vb,.slice none 0 0,.slice none 0 0,.slice none 0 0]):=b3;have bB:=H_ t3;have v5:=b2.cell 3 rfl;have v6:=b2.frozen 3;subst h1 h2 bC;have F:(Builtin.append_ #[131,131] 131 #[u,.slice (some ⟨wq.heap.size,0,none⟩) 1 1]).run Tryz.prog (wq.alloc (.cells ([.string sn,.string sp,.string sq,.int .i64 x3,.int .i64 df,.int .i64 de,.int .i64 du]).toArray 173))= .ok (.slice (some ⟨gv,0,none⟩) (i+1) cv) W2:=F;rename_i k1 k2 k3 k4;clear k1 k2 k3 k4 aY aA b2 b3 t3 own y j J
     go_wp2_with (at_builtin;refine ap_ (.tmp 74) (.tmp 113) 131 F ?_);go_roundw
     ·exact⟨i+1,_,by omega,by go_num,bA,G,bB⟩
     ·simp [intOf];omega
    ·obtain rfl:nD=i:=by omega
     have Z: ∀ {e:TypeId} {z n:Nat} {v:Value} {M:List Value} {b:Nat},136≠e ->fE.ownsRow b e z v n M ->wr.ownsRow b e z v n M:=fun he h=>ae_ h c.o he j.o;have aF:=H_ (Z (by decide) aM.o);have aO:=H_ (Z (by decide) aS.o);have bG:=own;have aJ:=H_ (R.o.trans j.o);have aG:=y;have X:Hd (bo<wr.heap.size):=y.o.lt;obtain⟨uD,iC⟩: ∃ q,q=u:=⟨_,rfl⟩
     subst iC;obtain⟨cV,eU⟩: ∃ q,q=wr:=⟨_,rfl⟩
     subst eU;clear Z own y j R c a hi aX;clear aM aS;have aM:=aF;have aS:=aO;have R:=aJ;have c:=aG;have a:=X;clear aJ aG X aF aO
     go_wp2
     go_loopw [7] (fun iv wr=> ∃ (i:Nat) (u:Value) (L:List REl),i<=nR/\iv= .int .i64 i/\Hd (Bx wr bo 136 [.int .i64 hz,uS,uP,uD,u,.slice none 0 0,.slice none 0 0])/\Hd (wr.ownsRow cV.heap.size 177 4 u i (L.flatMap relE))/\Hd (cS_ wr cV.heap.size W L i)/\Hd (But cV wr [bo])) (fun iv _=>nR-(intOf iv).toNat)
     ·exact⟨0,.slice none 0 0,[],Nat.zero_le _,rfl,c,World.ownsRow_nil _ _ _ _,⟨rfl,fun k e h=>by simp at h⟩,But.refl _ _⟩
     ·obtain⟨i,u,L,hi,rfl,y,own,hT,j⟩:=hrel;obtain⟨P,Q⟩:=aV.o _ (R.o.trans j.o);have y0:=P.cell 9 rfl;by_cases aX:i<nR
      ·have cL:(i:Int)<(nR:Int):=by omega
       obtain⟨b,o,r,rfl,S,aE,⟨s1,m1,d1,f0,dR,gQ,gR⟩,⟨s2,m2,d2,f1,dS,eC,gV⟩,⟨s3,m3,d3,f2,dT,gW,gX⟩⟩:=iA.o.get aX;obtain⟨hM,hP,hQ⟩:=hK.o r (List.mem_of_getElem? aE);have kB:m1<=100000:=by have:=dR.len;omega
       have kC:m2<=100000:=by have:=dS.len;omega
       have kD:m3<=100000:=by have:=dT.len;omega
       obtain⟨b1,o1,sn,rfl,aC,aB,g2⟩:=fZ.o.str (k:=i) (by have:=K3.o;omega);have dP:(i:Int)<(n3:Int):=by have:=K3.o;omega
       have hx:bJ_ W i=some ⟨sn,r.stops.map (aO_ W.stops),r.rides,r.stays⟩:=by unfold bJ_;rw [aE];simp only;rw [aG_ aB]
       have Y:=List.all_eq_true.1 iN.o _ (List.mem_of_getElem? aE);unfold okR at Y;rw [L0.o] at Y;have Y:=H_ Y;have D:=aI.o _ (R.o.trans j.o);have F1:=c_ D S f1;have F2:=c_ D S f2;have G2:=c_ D aC g2;have zb:=Nat.lt_of_lt_of_le S D.size;have gF:=Nat.lt_of_lt_of_le aC D.size;have y1:=Q.cell 3 rfl;have cW:=P.lt;have dM:=Q.lt;have R1:=H_ dR;have R2:=H_ (dS.below D);have R3:=H_ (dT.below D);have gD:=dS.len;have gE:=dT.len;have N1:=H_ dR.len;have N2:=H_ gD;have N3:=H_ gE;have iQ:=H_ hx;have fH:=H_ f0;obtain⟨wo,iP⟩: ∃ q,q=wr:=⟨_,rfl⟩
       subst iP;clear P Q dR dS dT hx aE aB D gD gE hM hP hQ gQ gR eC gV gW gX f0 f1 f2 g2;rename_i fX;clear fX
       go_wp2
       refine a0_ (fun fl x w=>GS wo [(fl 5,x 5,KNil wo.heap.size 2 1),(fl 12,x 12,KOwn wo.heap.size 2 1 m2 (r.rides.flatMap (numE .i64))),(fl 13,x 13,KNil wo.heap.size 2 1),(fl 20,x 20,KOwn wo.heap.size 2 1 m3 (r.stays.flatMap (numE .i64))),(fl 22,x 22,KBox wo.heap.size 177 [.string ⟨#[]⟩,.slice none 0 0,.slice none 0 0,.slice none 0 0])] [(fl 12,fl 5),(fl 20,fl 13)] [fl 12,fl 20] (fl 21) (x 21) (x 22) 177 [.string sn,.slice none 0 0,(x 12),(x 20)] (fl 23) w) (by kernel_rfl) (by kernel_rfl) (by kernel_rfl) (by kernel_rfl) (by kernel_rfl) ?_ ?_
       ·intro x0;refine GS.start ?_ ?_ ?_ rfl rfl
        ·intro e he;simp only [List.mem_cons,List.not_mem_nil,or_false] at he;rcases he with rfl|rfl|rfl|rfl|rfl<;>first|exact KNil.mono _ _ _|exact KOwn.mono _ _ _ _ _|exact KBox.mono _ _ _
        ·intro e he;simp only [List.mem_cons,List.not_mem_nil,or_false] at he;rcases he with rfl|rfl|rfl|rfl|rfl<;>rfl
        ·intro e he;simp only [List.mem_cons,List.not_mem_nil,or_false] at he;rcases he with rfl|rfl<;>rfl
       intro base O bM hO
       have N:Hd (∀ M,evX base O M (.tmp 1)= .pointer (some ⟨bn,0,none⟩)/\evX base O M (.tmp 3)= .pointer (some ⟨bb,0,none⟩)/\evX base O M (.tmp 7)= .int .i64 (i:Int)/\evX base O M (.tmp 8)=M 22/\evX base O M (.tmp 123)=M 0/\evX base O M (.tmp 124)=M 1/\evX base O M (.tmp 125)=M 2/\evX base O M (.tmp 126)=M 3/\evX base O M (.tmp 127)=M 4/\evX base O M (.tmp 128)=M 5/\evX base O M (.tmp 129)=M 6/\evX base O M (.tmp 130)=M 7/\evX base O M (.tmp 131)=M 8/\evX base O M (.tmp 132)=M 9/\evX base O M (.tmp 133)=M 10/\evX base O M (.tmp 134)=M 11/\evX base O M (.tmp 135)=M 12/\evX base O M (.tmp 136)=M 13/\evX base O M (.tmp 137)=M 14/\evX base O M (.tmp 138)=M 15/\evX base O M (.tmp 139)=M 16/\evX base O M (.tmp 140)=M 17/\evX base O M (.tmp 141)=M 18/\evX base O M (.tmp 142)=M 19/\evX base O M (.tmp 143)=M 20/\evX base O M (.tmp 144)=M 21):=fun M=>by rw [bM,hO];exact⟨rfl,rfl,rfl,rfl,rfl,rfl,rfl,rfl,rfl,rfl,rfl,rfl,rfl,rfl,rfl,rfl,rfl,rfl,rfl,rfl,rfl,rfl,rfl,rfl,rfl,rfl⟩
       clear bM hO;apply gd_ (n:=0);rfl
       ·intro _ g w _ m n _ _ r _ K t;have e3:=(r _).trans (N.o g).2.1;clear r n;go_simp;exact t _ _ rfl m
       apply gd_ (n:=1);rfl
       ·intro _ g w _ m n _ _ r _ K t;have d0:=n.at_ 0 rfl rfl;have jE:=(r _).trans ((N.o g).2.2.2.2.1.trans d0);clear r n;have m0:=c_ m.bel dM y1;go_simp;exact t _ _ rfl m
       apply gd_ (n:=2);rfl
       ·intro _ g w _ m n _ _ r _ K t;have e7:=(r _).trans (N.o g).2.2.1;clear r n;go_simp;exact t _ _ rfl m
       apply gd_ (n:=3);rfl
       ·intro _ g w _ m n _ _ r _ K t;have d1:=n.at_ 1 rfl rfl;have jF:=(r _).trans ((q4_ (N.o g)).2.1.trans d1);have d2:=n.at_ 2 rfl rfl;have jG:=(r _).trans ((q4_ (N.o g)).2.2.1.trans d2);clear r n;go_simp;exact t _ _ rfl m
       apply gd_ (n:=4);rfl
       ·intro _ g w _ m n _ _ r _ K t;have d3:=n.at_ 3 rfl rfl;have jH:=(r _).trans ((q4_ (N.o g)).2.2.2.1.trans d3);clear r n;have m0:=c_ m.bel gF G2;go_simp;exact t _ _ rfl m
       refine ga_ (n:=5) (fun _=>True) ?_ ?_
       ·intro f _ w _ m n p _ r _ K t;clear r n;have d:=KNil.new w wo.heap.size 2 1 m.bel.size;go_simp;exact t _ _ trivial (m.stepO 0 rfl p (ag_ _ _ _) d (a4_ (fun _=>rfl) (a4_ (m.im (f 20,f 13) (by simp)) bk_)))
       apply gd_ (n:=6);rfl
       ·intro _ g w _ m n _ _ r _ K t;have e1:=(r _).trans (N.o g).1;clear r n;go_simp;exact t _ _ rfl m
       apply gd_ (n:=7);rfl
       ·intro _ g w _ m n _ _ r _ K t;have d6:=n.at_ 6 rfl rfl;have jJ:=(r _).trans ((q4_ (q4_ (N.o g))).2.2.1.trans d6);clear r n;have m0:=c_ m.bel cW y0;go_simp;exact t _ _ rfl m
       apply gd_ (n:=8);rfl
       ·intro _ g w _ m n _ _ r _ K t;have e7:=(r _).trans (N.o g).2.2.1;clear r n;go_simp;exact t _ _ rfl m
       apply gd_ (n:=9);rfl
       ·intro _ g w _ m n _ _ r _ K t;have d7:=n.at_ 7 rfl rfl;have jK:=(r _).trans ((q4_ (q4_ (N.o g))).2.2.2.1.trans d7);have d8:=n.at_ 8 rfl rfl;have jL:=(r _).trans ((q4_ (q4_ (q4_ (N.o g)))).1.trans d8);clear r n;go_simp;exact t _ _ rfl m
       apply gd_ (n:=10);rfl
       ·intro _ g w _ m n _ _ r _ K t;have d9:=n.at_ 9 rfl rfl;have jM:=(r _).trans ((q4_ (q4_ (q4_ (N.o g)))).2.1.trans d9);clear r n;go_simp;exact t _ _ rfl m
       apply gd_ (n:=11);rfl
       ·intro _ g w _ m n _ _ r _ K t;have gI:=n.at_ 10 rfl rfl;have jN:=(r _).trans ((q4_ (q4_ (q4_ (N.o g)))).2.2.1.trans gI);clear r n;have m0:=c_ m.bel zb F1;go_simp;exact t _ _ rfl m
       refine ga_ (n:=12) (fun _=>True) ?_ ?_
       ·intro f g w _ m n p q r _ K t;have fK:=(r _).trans (q4_ (q4_ (N.o g))).2.1;have gJ:=n.at_ 11 rfl rfl;have fL:=(r _).trans ((q4_ (q4_ (q4_ (N.o g)))).2.2.2.1.trans gJ);clear r n;obtain⟨fV,aN⟩:=m.ahead 1 rfl p;obtain⟨gq,aW,bF⟩:=aN.get 0 rfl (al_ q 5 rfl);rw [aW] at bF;have cA:=R2.o.below m.bel;have bY:=m.bel.size;obtain⟨vq,wq,F,cB,aC⟩:=dw_ Tryz.underlying45 bc_ rfl (by decide) aj_ d2 bF cA (by omega) (by decide) bY;exact cN_ (.tmp 128) (.tmp 134) 45 rfl (fK.trans aW) fL F (t _ _ trivial (m.step 1 rfl p (by simp) aC cB (a4_ (fun _=>al_ q 5 rfl) (a4_ (m.im (f 20,f 13) (by simp)) bk_))))
       refine ga_ (n:=13) (fun _=>True) ?_ ?_
       ·intro f _ w _ m n p _ r _ K t;clear r n;have d:=KNil.new w wo.heap.size 2 1 m.bel.size;go_simp;exact t _ _ trivial (m.stepO 2 rfl p (ag_ _ _ _) d (a4_ (m.im (f 12,f 5) (by simp)) (a4_ (fun _=>rfl) bk_)))
       apply gd_ (n:=14);rfl
       ·intro _ g w _ m n _ _ r _ K t;have e1:=(r _).trans (N.o g).1;clear r n;go_simp;exact t _ _ rfl m
       apply gd_ (n:=15);rfl
       ·intro _ g w _ m n _ _ r _ K t;have gK:=n.at_ 14 rfl rfl;have jO:=(r _).trans ((q4_ (q4_ (q4_ (q4_ (N.o g))))).2.2.1.trans gK);clear r n;have m0:=c_ m.bel cW y0;go_simp;exact t _ _ rfl m
       apply gd_ (n:=16);rfl
       ·intro _ g w _ m n _ _ r _ K t;have e7:=(r _).trans (N.o g).2.2.1;clear r n;go_simp;exact t _ _ rfl m
       apply gd_ (n:=17);rfl
       ·intro _ g w _ m n _ _ r _ K t;have gL:=n.at_ 15 rfl rfl;have jP:=(r _).trans ((q4_ (q4_ (q4_ (q4_ (N.o g))))).2.2.2.1.trans gL);have gM:=n.at_ 16 rfl rfl;have jQ:=(r _).trans ((q4_ (q4_ (q4_ (q4_ (q4_ (N.o g)))))).1.trans gM);clear r n;go_simp;exact t _ _ rfl m
       apply gd_ (n:=18);rfl
       ·intro _ g w _ m n _ _ r _ K t;have gN:=n.at_ 17 rfl rfl;have jR:=(r _).trans ((q4_ (q4_ (q4_ (q4_ (q4_ (N.o g)))))).2.1.trans gN);clear r n;go_simp;exact t _ _ rfl m
       apply gd_ (n:=19);rfl
       ·intro _ g w _ m n _ _ r _ K t;have gO:=n.at_ 18 rfl rfl;have jS:=(r _).trans ((q4_ (q4_ (q4_ (q4_ (q4_ (N.o g)))))).2.2.1.trans gO);clear r n;have m0:=c_ m.bel zb F2;go_simp;exact t _ _ rfl m
       refine ga_ (n:=20) (fun _=>True) ?_ ?_
       ·intro f g w _ m n p q r _ K t;have fN:=(r _).trans (q4_ (q4_ (q4_ (q4_ (N.o g))))).2.1;have gP:=n.at_ 19 rfl rfl;have fO:=(r _).trans ((q4_ (q4_ (q4_ (q4_ (q4_ (N.o g)))))).2.2.2.1.trans gP);clear r n;obtain⟨fV,aN⟩:=m.ahead 3 rfl p;obtain⟨gq,aW,bF⟩:=aN.get 2 rfl (al_ q 13 rfl);rw [aW] at bF;have cA:=R3.o.below m.bel;have bY:=m.bel.size;obtain⟨vq,wq,F,cB,aC⟩:=dw_ Tryz.underlying45 bc_ rfl (by decide) aj_ d3 bF cA (by omega) (by decide) bY;exact cN_ (.tmp 136) (.tmp 142) 45 rfl (fN.trans aW) fO F (t _ _ trivial (m.step 3 rfl p (by simp) aC cB (a4_ (m.im (f 12,f 5) (by simp)) (a4_ (fun _=>al_ q 13 rfl) bk_))))
       refine ga_ (n:=21) (fun _=>True) ?_ ?_
       ·intro _ g w _ m n p q r _ K t;have d4:=n.at_ 4 rfl rfl;have jI:=(r _).trans ((q4_ (q4_ (N.o g))).1.trans d4);have fM:=(r _).trans (q4_ (q4_ (q4_ (q4_ (N.o g))))).1;have fP:=(r _).trans (q4_ (q4_ (q4_ (q4_ (q4_ (q4_ (N.o g))))))).1;clear r n;obtain⟨jC,cM⟩:=m.wit 1 rfl (al_ q 12 rfl);obtain⟨dX,dZ,bI,_⟩:=Rd.of_own aj_ N2.o cM;rw [bI] at fM;clear cM;obtain⟨jD,cN⟩:=m.wit 3 rfl (al_ q 20 rfl);obtain⟨dY,eA,bJ,_⟩:=Rd.of_own aj_ N3.o cN;rw [bJ] at fP;clear cN;have d:=m.built (xb':= .agg (List.toArray [.string sn,.slice none 0 0,(g 12),(g 20)])) p (by simp [al_ q 12 rfl,al_ q 20 rfl]) rfl;go_simp;rw [<-bI];rw [<-bJ];exact t _ _ trivial d
       refine ga_ (n:=22) (fun _=>True) ?_ ?_
       ·intro f _ w _ m n p _ r _ K t;clear r n;have d:=m.bel.size;go_simp;exact t _ _ trivial (m.stepO 4 rfl p (ag_ _ _ _) ⟨_,rfl,d,Bx.new w _ _⟩ (a4_ (m.im (f 12,f 5) (by simp)) (a4_ (m.im (f 20,f 13) (by simp)) bk_)))
       refine ga_ (n:=23) (fun _=>True) ?_ ?_
       ·intro f g w _ m n p q r _ K t;have e8:=(r _).trans (N.o g).2.2.2.1;have fQ:=(r _).trans (q4_ (q4_ (q4_ (q4_ (q4_ (q4_ (N.o g))))))).2;clear r n;have aN:=m.ini p;obtain⟨gq,aW,eN,J⟩:=aN.get 4 rfl (al_ q 22 rfl);obtain⟨aK,eI⟩:=m.bd (al_ q 21 rfl);obtain⟨dX,dZ,bI,_⟩:=Rd.of_own aj_ N2.o (aN.get 1 rfl (aK _ (by simp)));obtain⟨dY,eA,bJ,_⟩:=Rd.of_own aj_ N3.o (aN.get 3 rfl (aK _ (by simp)));have dA: ∀ e∈[f 5,f 12,f 13,f 20,f 22],e=true:=by simp [al_ q 22 rfl,aK (f 12) (by simp),aK (f 20) (by simp),(show f 5=true from m.im (f 12,f 5) (by simp) (aK _ (by simp))),(show f 13=true from m.im (f 20,f 13) (by simp) (aK _ (by simp)))]
        exact aP_ (.tmp 8) (.tmp 144) 177 rfl (e8.trans aW) (fQ.trans eI) J (by kernel_rfl) rfl (by simp [bI,bJ,Value.oneCell']) (fun w' hB cZ=>t _ _ trivial (m.put p (al_ q 21 rfl) (by simpa using dA) aW eN J.lt hB cZ))
       clear N;intro M wj hG hI;clear hI;have aU:=hG.bel;obtain⟨kE,bj,bP,dH,cK,jT,bE,cI⟩:=hG.fin rfl;clear hG;have iY:=bP.get 0 rfl rfl;have fC:=bP.get 1 rfl rfl;have iZ:=bP.get 2 rfl rfl;have fD:=bP.get 3 rfl rfl;have jA:=bP.get 4 rfl rfl;simp only [List.append_eq,List.cons_append,List.nil_append,aA_,List.setIfInBounds_toArray,List.set_cons_zero,List.set_cons_succ,Nat.zero_add,Nat.reduceAdd];obtain⟨A2,cC,fR,_⟩:=Rd.of_own aj_ N2.o fC;obtain⟨A3,cE,fS,_⟩:=Rd.of_own aj_ N3.o fD;obtain⟨bz,dG,_,cQ⟩:=jA;rw [dH] at dG;cases dG;have O2:=ae_ fC cQ (by decide) cI;have O3:=ae_ fD cQ (by decide) cI;rw [fR] at O2 bE;rw [fS] at O3 bE;have O2:=H_ O2;have O3:=H_ O3;have bE:=H_ bE;have aU:=H_ aU;have cK:=H_ cK;have eJ:Hd (bj<wj.heap.size):=bE.o.lt;have eF:Hd (∀ U,But wj U [bj] ->But bH U [bo]):=fun U hU=>R.o.trans (j.o.trans (But.of_below (aU.o.trans (hU.below aU.o.size (m_ cK.o))) _));rw [dH]
       clear iY fC iZ fD fR fS cQ cI dH bP y0 y1 zb gF cW dM F1 F2 G2 R2 R3;rename_i k1 k2 k3 k4 k5;clear k1 k2 k3 k4 k5
       go_wp2
       go_loopw [9] (fun kv wr=> ∃ (k:Nat) (ux:Value),k<=m1/\kv= .int .i64 k/\Hd (Bx wr bj 177 [.string sn,ux,.slice A2 m2 cC,.slice A3 m3 cE])/\Hd (wr.ownsRow wj.heap.size 9 1 ux k (((r.stops.take k).map (aO_ W.stops)).flatMap strE))/\Hd (But wj wr [bj])) (fun kv _=>m1-(intOf kv).toNat)
       ·exact⟨0,.slice none 0 0,Nat.zero_le _,rfl,bE,World.ownsRow_nil _ _ _ _,But.refl _ _⟩
       ·obtain⟨k,ux,hk,rfl,bZ,cO,aL⟩:=hrel;obtain⟨P,Q⟩:=aV.o _ (eF.o _ aL.o);have y0:=P.cell 9 rfl;have F0:=c_ (aI.o _ (eF.o _ aL.o)) S fH.o;clear P Q;by_cases hL:k<m1
        ·have jU:(k:Int)<(m1:Int):=by omega
         obtain⟨b2,o2,x1,rfl,bX,eX,h0⟩:=R1.o.num hL;have eM:=List.all_eq_true.1 Y.o _ (List.mem_of_getElem? eX)
         try simp only at eM
         obtain⟨j1,j2⟩:=a5_.1 eM;obtain⟨p,rfl⟩: ∃ p:Nat,x1=p:=⟨x1.toNat,by omega⟩
         obtain⟨b0,o0,sp,rfl,aZ,aQ,g0⟩:=cJ.o.str (k:=p) (by omega);have gA:(r.stops.take (k+1)).map (aO_ W.stops)=(r.stops.take k).map (aO_ W.stops)++[sp]:=by rw [an_ eX,List.map_append,List.map_singleton,aG_ aQ]
         have aA:((r.stops.take k).map (aO_ W.stops)).length =k:=by rw [List.length_map,List.length_take];have:=N1.o;omega
         go_wp2
         refine wl_ [0,0,0,0,0,0,0,0,0,0,0,0,0,0,0,2,2,2,2] ?_;intro C hC;simp only [af_,Nat.reduceEqDiff, ↓reduceIte]
         repeat(go_big_quiet_step (first
          |(intro _;with_reducible rfl)
          |(intro hc;have hR:=eF.o _ (aL.o.trans (But.of_below hc _));obtain⟨P,Q⟩:=aV.o _ hR;have D:=aI.o _ hR;simp only [(bZ.o.below hc).cell 1 rfl,Q.cell 0 rfl,P.cell 9 rfl,c_ D S fH.o,c_ D bX h0,c_ D aZ g0,Result.andThen];exact⟨trivial,rfl⟩)))
         clear hC;intro C' bL;clear bL;intro wq J;obtain⟨W1,W2,W3,va,vb,h1,h2,h3,⟨_,c2,c3⟩,⟨_,_,t3⟩,_,F,G,gv,cv,bC⟩:=ci_ (enc:=strE) Tryz.underlying22 ax_ rfl (by decide) ad_ aH_ (by decide) (f:=1) (T:=177) sp (bZ.o.below J) (aa_ cO.o J) aA (by omega) eJ.o (aL.o.trans (But.of_below J _));rw [<-gA] at G;have G:=H_ G;have bA:Hd (Bx W3 bj 177 [.string sn,vb,.slice A2 m2 cC,.slice A3 m3 cE]):=c3;have bB:=H_ t3;have v5:=c2.cell 1 rfl;have v6:=c2.frozen 1;subst h1 h2 bC;have F:(Builtin.append_ #[22,22] 22 #[ux,.slice (some ⟨wq.heap.size,0,none⟩) 1 1]).run Tryz.prog (wq.alloc (.cells #[.string sp] 9))= .ok (.slice (some ⟨gv,0,none⟩) (k+1) cv) W2:=F;rename_i k1 k2 k3 k4;clear k1 k2 k3 k4 gA aA eX cO bZ aL aQ eM j1 c2 c3 t3 J;go_wp2_with (at_builtin;refine ap_ (.tmp 157) (.tmp 171) 22 F ?_);go_roundw
         ·exact⟨k+1,_,by omega,by go_num,bA,G,bB⟩
         ·simp [intOf];omega
        ·obtain rfl:m1=k:=by omega
         have bQ:Below wo.heap.size wo wr:=aU.o.trans (aL.o.below aU.o.size (m_ cK.o));have fW:(r.stops.map (aO_ W.stops)).length =m1:=by rw [List.length_map];exact N1.o
         have ownF:=cO.o;rw [List.take_of_length_le (by rw [N1.o];omega)] at ownF;obtain⟨A1,cY,rfl,_⟩:=Rd.of_own ad_ fW ownF
         have dV:RowT wr cV.heap.size ((sn,(A1,m1,cY),(A2,m2,cC),(A3,m3,cE)):REl) ⟨sn,r.stops.map (aO_ W.stops),r.rides,r.stays⟩:=by
          have z1:=j.o.size;have z2:=aU.o.size;refine⟨rfl,?_,?_,?_⟩
          ·show wr.ownsRow _ _ _ (.slice A1 m1 cY) (r.stops.map (aO_ W.stops)).length _;rw [fW];exact aB_ ownF (by omega)
          ·show wr.ownsRow _ _ _ (.slice A2 m2 cC) r.rides.length _;rw [N2.o];exact aB_ (ae_ O2.o bE.o (by decide) aL.o) z1
          ·show wr.ownsRow _ _ _ (.slice A3 m3 cE) r.stays.length _;rw [N3.o];exact aB_ (ae_ O3.o bE.o (by decide) aL.o) z1
         obtain⟨W1,W2,W3,va,vb,h1,h2,h3,⟨_,b2,b3⟩,⟨_,_,t3⟩,dJ,F,G,gv,cv,bC⟩:=ci_ (enc:=relE) Tryz.underlying132 fI_ rfl (by decide) dY_ jf_ (by decide) (f:=4) (T:=136) ((sn,(A1,m1,cY),(A2,m2,cC),(A3,m3,cE)):REl) (y.o.below bQ) (aa_ own.o bQ) hT.o.len (by omega) a.o (j.o.trans (But.of_below bQ _));have hH:Hd (cS_ W3 cV.heap.size W (L++[((sn,(A1,m1,cY),(A2,m2,cC),(A3,m3,cE)):REl)]) (i+1)):=((hT.o.up (fun _ _ _ _ _ _ _ _ h=>aa_ h bQ)).snoc iQ.o dV).up (fun _ _ _ _ _ _ he hb h=>dJ _ _ _ _ _ _ (by rcases he with rfl|rfl<;>decide) (by rw [hb];exact a.o) h);have G:=H_ G;have bA:Hd (Bx W3 bo 136 [.int .i64 hz,uS,uP,uD,vb,.slice none 0 0,.slice none 0 0]):=b3;have bB:=H_ t3;have v0:=(y.o.below bQ).cell 4 rfl;obtain⟨v1,v2,v3,v4⟩:=c_4 bZ.o;have v5:=b2.cell 4 rfl;have v6:=b2.frozen 4;subst h1 h2 bC
         have F:(Builtin.append_ #[132,132] 132 #[u,.slice (some ⟨wr.heap.size,0,none⟩) 1 1]).run Tryz.prog (wr.alloc (.cells #[.string sn,.slice A1 m1 cY,.slice A2 m2 cC,.slice A3 m3 cE] 177))= .ok (.slice (some ⟨gv,0,none⟩) (i+1) cv) W2:=F;rename_i k1 k2 k3;clear k1 k2 k3 dJ b2 b3 t3 dV ownF bQ cO bZ aL hT own y j O2 O3;go_wp2_with (at_builtin;refine ap_ (.tmp 175) (.tmp 177) 132 F ?_)
         skip
         go_roundw
         ·exact⟨i+1,_,_,by omega,by go_num,bA,G,hH,bB⟩
         ·simp [intOf];omega
      ·obtain rfl:nR=i:=by omega
       have Z: ∀ {e:TypeId} {z n:Nat} {v:Value} {M:List Value} {b:Nat},136≠e ->cV.ownsRow b e z v n M ->wr.ownsRow b e z v n M:=fun he h=>ae_ h c.o he j.o;have aF:=H_ (Z (by decide) aM.o);have aO:=H_ (Z (by decide) aS.o);have bD:=H_ (Z (by decide) bG.o);have bR:=own;have aJ:=H_ (R.o.trans j.o);have aG:=y;have X:Hd (bo<wr.heap.size):=y.o.lt;obtain⟨uR,iF⟩: ∃ q,q=u:=⟨_,rfl⟩
       subst iF;obtain⟨fF,iH⟩: ∃ q,q=wr:=⟨_,rfl⟩
       subst iH;clear Z own y j R c a hi aX;have bN:=hT;clear hT;clear aM aS bG;have aM:=aF;have aS:=aO;have bG:=bD;have R:=aJ;have c:=aG;have a:=X;clear aJ aG X aF aO bD
       go_wp2
       go_loopw [10] (fun iv wr=> ∃ (i:Nat) (u:Value),i<=nT/\iv= .int .i64 i/\Hd (Bx wr bo 136 [.int .i64 hz,uS,uP,uD,uR,u,.slice none 0 0])/\Hd (wr.ownsRow fF.heap.size 179 5 u i ((aI_ (bP_ W) i).flatMap aS_))/\Hd (But fF wr [bo])) (fun iv _=>nT-(intOf iv).toNat)
       ·exact⟨0,.slice none 0 0,Nat.zero_le _,rfl,c,World.ownsRow_nil _ _ _ _,But.refl _ _⟩
       ·obtain⟨i,u,hi,rfl,y,own,j⟩:=hrel;obtain⟨P,Q⟩:=aV.o _ (R.o.trans j.o);have y0:=P.cell 10 rfl;clear P Q;by_cases aX:i<nT
        ·have cL:(i:Int)<(nT:Int):=by omega
         obtain⟨b,o,⟨x1,tf,te,tu⟩,rfl,S,aE,hc⟩:=iB.o.get aX;have f0:=hc 0 _ rfl;have f1:=hc 1 _ rfl;have f2:=hc 2 _ rfl;have f3:=hc 3 _ rfl;simp only [Nat.add_zero] at f0 f1 f2 f3;have Y:=List.all_eq_true.1 iO.o _ (List.mem_of_getElem? aE);unfold okT at Y;simp only at Y;rw [L3.o] at Y;obtain⟨j1,j2⟩:=a5_.1 Y;obtain⟨p,rfl⟩: ∃ p:Nat,x1=p:=⟨x1.toNat,by omega⟩
         obtain⟨b0,o0,sp,rfl,aZ,aQ,g0⟩:=fZ.o.str (k:=p) (by omega);obtain⟨b1,o1,sn,rfl,aC,aB,g2⟩:=hV.o.str (k:=i) (by have:=K4.o;omega);have hx:bP_ W i=some ⟨sn,sp,tf,te,tu⟩:=by unfold bP_;rw [aE];simp only;rw [aG_ aB,aG_ aQ]
         have dP:(i:Int)<(n4:Int):=by have:=K4.o;omega
         clear Y j1 aE aQ aB hc
         go_wp2
         refine wl_ [0,0,0,0,0,0,0,0,0,0,0,0,0,0,0,0,0,0,0,0,0,0,0,0,0,0,0,0,0,0,0,0,0,0,0,0,2,2,2,2] ?_;intro C hC;simp only [af_,Nat.reduceEqDiff, ↓reduceIte]
         repeat(go_big_quiet_step (first
          |(intro _;with_reducible rfl)
          |(intro hc;have hR:=R.o.trans (j.o.trans (But.of_below hc _));obtain⟨P,Q⟩:=aV.o _ hR;have D:=aI.o _ hR;simp only [(y.o.below hc).cell 5 rfl,Q.cell 4 rfl,Q.cell 3 rfl,P.cell 10 rfl,c_ D aC g2,c_ D aZ g0,c_ D S f0,c_ D S f1,c_ D S f2,c_ D S f3,Result.andThen];exact⟨trivial,rfl⟩)))
         clear hC;intro C' bL;clear bL;intro wq J;have aY:=bC_ hx;have aA:=aw_ dD.o i (by omega);obtain⟨W1,W2,W3,va,vb,h1,h2,h3,⟨_,b2,b3⟩,⟨_,_,t3⟩,_,F,G,gv,cv,bC⟩:=ci_ (enc:=aS_) Tryz.underlying133 gh_ rfl (by decide) dl_ hq_ (by decide) (f:=5) (T:=136) _ (y.o.below J) (aa_ own.o J) aA (by omega) a.o (j.o.trans (But.of_below J _));rw [<-aY] at G;have G:=H_ G;have bA:Hd (Bx W3 bo 136 [.int .i64 hz,uS,uP,uD,uR,vb,.slice none 0 0]):=b3;have bB:=H_ t3;have v5:=b2.cell 5 rfl;have v6:=b2.frozen 5;subst h1 h2 bC;have F:(Builtin.append_ #[133,133] 133 #[u,.slice (some ⟨wq.heap.size,0,none⟩) 1 1]).run Tryz.prog (wq.alloc (.cells ([.string sn,.string sp,.int .i64 tf,.int .i64 te,.int .i64 tu]).toArray 179))= .ok (.slice (some ⟨gv,0,none⟩) (i+1) cv) W2:=F;rename_i k1 k2 k3 k4;clear k1 k2 k3 k4 aY aA b2 b3 t3 own y j J;go_wp2_with (at_builtin;refine ap_ (.tmp 188) (.tmp 223) 133 F ?_);go_roundw
         ·exact⟨i+1,_,by omega,by go_num,bA,G,bB⟩
         ·simp [intOf];omega
        ·obtain rfl:nT=i:=by omega
         have Z: ∀ {e:TypeId} {z n:Nat} {v:Value} {M:List Value} {b:Nat},136≠e ->fF.ownsRow b e z v n M ->wr.ownsRow b e z v n M:=fun he h=>ae_ h c.o he j.o;have aF:=H_ (Z (by decide) aM.o);have aO:=H_ (Z (by decide) aS.o);have bD:=H_ (Z (by decide) bG.o);have bV:=H_ (Z (by decide) bR.o);have bW:=H_ (bN.o.up (fun _ _ _ _ _ _ he _ h=>Z (by rcases he with rfl|rfl<;>decide) h));have cS:=own;have aJ:=H_ (R.o.trans j.o);have aG:=y;have X:Hd (bo<wr.heap.size):=y.o.lt;obtain⟨uT,iG⟩: ∃ q,q=u:=⟨_,rfl⟩
         subst iG;obtain⟨fG,iI⟩: ∃ q,q=wr:=⟨_,rfl⟩
         subst iI;clear Z own y j R c a hi aX;clear aM aS bG bR;have aM:=aF;have aS:=aO;have bG:=bD;have bR:=bV;clear bN;have bN:=bW;clear bW;have R:=aJ;have c:=aG;have a:=X;clear aJ aG X aF aO bD bV
         go_wp2
         go_loopw [11] (fun iv wr=> ∃ (i:Nat) (u:Value),i<=nH/\iv= .int .i64 i/\Hd (Bx wr bo 136 [.int .i64 hz,uS,uP,uD,uR,uT,u])/\Hd (wr.ownsRow fG.heap.size 181 5 u i ((aI_ (bv_ W) i).flatMap a2_))/\Hd (But fG wr [bo])) (fun iv _=>nH-(intOf iv).toNat)
         ·exact⟨0,.slice none 0 0,Nat.zero_le _,rfl,c,World.ownsRow_nil _ _ _ _,But.refl _ _⟩
         ·obtain⟨i,u,hi,rfl,y,own,j⟩:=hrel;obtain⟨P,Q⟩:=aV.o _ (R.o.trans j.o);have y0:=P.cell 11 rfl;clear P Q;by_cases aX:i<nH
          ·have cL:(i:Int)<(nH:Int):=by omega
           obtain⟨b,o,⟨hs,x1,hf,he,hd⟩,rfl,S,aE,hc⟩:=hY.o.get aX;have f0:=hc 0 _ rfl;have f1:=hc 1 _ rfl;have f2:=hc 2 _ rfl;have f3:=hc 3 _ rfl;have f4:=hc 4 _ rfl;simp only [Nat.add_zero] at f0 f1 f2 f3 f4;have Y:=List.all_eq_true.1 iL.o _ (List.mem_of_getElem? aE);unfold okH at Y;simp only at Y;rw [L0.o,L1.o] at Y;obtain⟨b1,o1,sn,rfl,aC,aB,g2⟩:=hW.o.str (k:=i) (by have:=K5.o;omega);have dP:(i:Int)<(n5:Int):=by have:=K5.o;omega
           obtain⟨P,Q⟩:=aV.o _ (R.o.trans j.o);have y1:=Q.cell 0 rfl;have y2:=Q.cell 1 rfl;have D:=aI.o _ (R.o.trans j.o);have jZ:=c_ D S f0;clear P Q D
           cases hs with
           |true=>
            simp only [if_true,if_false,Bool.false_eq_true] at Y;obtain⟨j1,j2⟩:=a5_.1 Y;obtain⟨p,rfl⟩: ∃ p:Nat,x1=p:=⟨x1.toNat,by omega⟩
            obtain⟨b0,o0,sp,rfl,aZ,aQ,g0⟩:=cJ.o.str (k:=p) (by omega);have hx:bv_ W i=some ⟨sn,sp,hf,he,hd⟩:=by unfold bv_;rw [aE];simp only [if_true,if_false,Bool.false_eq_true];rw [aG_ aB,aG_ aQ]
            clear Y j1 aE aQ aB hc
            go_wp2
            refine wl_ [0,0,0,0,0,0,0,0,0,0,0,0,0,0,0,0,0,0,0,0,0,0,0,2,2,2,2] ?_;intro C hC;simp only [af_,Nat.reduceEqDiff, ↓reduceIte]
            repeat(go_big_quiet_step (first
             |(intro _;with_reducible rfl)
             |(intro hc;have hR:=R.o.trans (j.o.trans (But.of_below hc _));obtain⟨P,Q⟩:=aV.o _ hR;have D:=aI.o _ hR;simp only [(y.o.below hc).cell 6 rfl,Q.cell 5 rfl,P.cell 11 rfl,c_ D aC g2,c_ D aZ g0,c_ D S f1,c_ D S f2,c_ D S f3,c_ D S f4,Result.andThen];exact⟨trivial,rfl⟩)))
            clear hC;intro C' bL;clear bL;intro wq J;have aY:=bC_ hx;have aA:=aw_ cF.o i (by omega);obtain⟨W1,W2,W3,va,vb,h1,h2,h3,⟨_,b2,b3⟩,⟨_,_,t3⟩,_,F,G,gv,cv,bC⟩:=ci_ (enc:=a2_) Tryz.underlying134 fc_ rfl (by decide) da_ fT_ (by decide) (f:=6) (T:=136) _ (y.o.below J) (aa_ own.o J) aA (by omega) a.o (j.o.trans (But.of_below J _));rw [<-aY] at G;have G:=H_ G;have bA:Hd (Bx W3 bo 136 [.int .i64 hz,uS,uP,uD,uR,uT,vb]):=b3;have bB:=H_ t3;have v5:=b2.cell 6 rfl;have v6:=b2.frozen 6;subst h1 h2 bC;have F:(Builtin.append_ #[134,134] 134 #[u,.slice (some ⟨wq.heap.size,0,none⟩) 1 1]).run Tryz.prog (wq.alloc (.cells ([.string sn,.string sp,.int .i64 hf,.int .i64 he,.int .i64 hd]).toArray 181))= .ok (.slice (some ⟨gv,0,none⟩) (i+1) cv) W2:=F;rename_i k1 k2 k3 k4;clear k1 k2 k3 k4 aY aA b2 b3 t3 own y j J;go_wp2_with (at_builtin;refine ap_ (.tmp 244) (.tmp 266) 134 F ?_);go_roundw
            ·exact⟨i+1,_,by omega,by go_num,bA,G,bB⟩
            ·simp [intOf];omega
           |false=>
            simp only [if_true,if_false,Bool.false_eq_true] at Y;obtain⟨j1,j2⟩:=a5_.1 Y;obtain⟨p,rfl⟩: ∃ p:Nat,x1=p:=⟨x1.toNat,by omega⟩
            obtain⟨b0,o0,sp,rfl,aZ,aQ,g0⟩:=fY.o.str (k:=p) (by omega);have hx:bv_ W i=some ⟨sn,sp,hf,he,hd⟩:=by unfold bv_;rw [aE];simp only [if_true,if_false,Bool.false_eq_true];rw [aG_ aB,aG_ aQ]
            clear Y j1 aE aQ aB hc
            go_wp2
            refine wl_ [0,0,0,0,0,0,0,0,0,0,0,0,0,0,0,0,0,0,0,0,0,0,0,2,2,2,2] ?_;intro C hC;simp only [af_,Nat.reduceEqDiff, ↓reduceIte]
            repeat(go_big_quiet_step (first
             |(intro _;with_reducible rfl)
             |(intro hc;have hR:=R.o.trans (j.o.trans (But.of_below hc _));obtain⟨P,Q⟩:=aV.o _ hR;have D:=aI.o _ hR;simp only [(y.o.below hc).cell 6 rfl,Q.cell 5 rfl,P.cell 11 rfl,c_ D aC g2,c_ D aZ g0,c_ D S f1,c_ D S f2,c_ D S f3,c_ D S f4,Result.andThen];exact⟨trivial,rfl⟩)))
            clear hC;intro C' bL;clear bL;intro wq J;have aY:=bC_ hx;have aA:=aw_ cF.o i (by omega);obtain⟨W1,W2,W3,va,vb,h1,h2,h3,⟨_,b2,b3⟩,⟨_,_,t3⟩,_,F,G,gv,cv,bC⟩:=ci_ (enc:=a2_) Tryz.underlying134 fc_ rfl (by decide) da_ fT_ (by decide) (f:=6) (T:=136) _ (y.o.below J) (aa_ own.o J) aA (by omega) a.o (j.o.trans (But.of_below J _));rw [<-aY] at G;have G:=H_ G;have bA:Hd (Bx W3 bo 136 [.int .i64 hz,uS,uP,uD,uR,uT,vb]):=b3;have bB:=H_ t3;have v5:=b2.cell 6 rfl;have v6:=b2.frozen 6;subst h1 h2 bC;have F:(Builtin.append_ #[134,134] 134 #[u,.slice (some ⟨wq.heap.size,0,none⟩) 1 1]).run Tryz.prog (wq.alloc (.cells ([.string sn,.string sp,.int .i64 hf,.int .i64 he,.int .i64 hd]).toArray 181))= .ok (.slice (some ⟨gv,0,none⟩) (i+1) cv) W2:=F;rename_i k1 k2 k3 k4;clear k1 k2 k3 k4 aY aA b2 b3 t3 own y j J;go_wp2_with (at_builtin;refine ap_ (.tmp 244) (.tmp 266) 134 F ?_);go_roundw
            ·exact⟨i+1,_,by omega,by go_num,bA,G,bB⟩
            ·simp [intOf];omega
          ·obtain rfl:nH=i:=by omega
           have Z: ∀ {e:TypeId} {z n:Nat} {v:Value} {M:List Value} {b:Nat},136≠e ->fG.ownsRow b e z v n M ->wr.ownsRow b e z v n M:=fun he h=>ae_ h c.o he j.o;have aF:=H_ (Z (by decide) aM.o);have aO:=H_ (Z (by decide) aS.o);have bD:=H_ (Z (by decide) bG.o);have bV:=H_ (Z (by decide) bR.o);have dU:=H_ (Z (by decide) cS.o);have bW:=H_ (bN.o.up (fun _ _ _ _ _ _ he _ h=>Z (by rcases he with rfl|rfl<;>decide) h));have eE:=own;have aJ:=H_ (R.o.trans j.o);have aG:=y;have X:Hd (bo<wr.heap.size):=y.o.lt;obtain⟨uH,iD⟩: ∃ q,q=u:=⟨_,rfl⟩
           subst iD;obtain⟨jB,iJ⟩: ∃ q,q=wr:=⟨_,rfl⟩
           subst iJ;clear Z own y j R c a hi aX;clear aM aS bG bR cS;have aM:=aF;have aS:=aO;have bG:=bD;have bR:=bV;have cS:=dU;clear bN;have bN:=bW;clear bW;have R:=aJ;have c:=aG;have a:=X;clear aJ aG X aF aO bD bV dU;have fA:(aI_ (bO_ W) nP).length =nP:=aw_ dC.o nP (Nat.le_refl _);have eY:(aI_ (bN_ W) nD).length =nD:=aw_ dB.o nD (Nat.le_refl _);have fB:(aI_ (bP_ W) nT).length =nT:=aw_ dD.o nT (Nat.le_refl _);have eZ:(aI_ (bv_ W) nH).length =nH:=aw_ cF.o nH (Nat.le_refl _);obtain⟨AS,xS,eS,_⟩:=Rd.of_own ad_ L0.o aM.o;obtain⟨AP,xP,eP,_⟩:=Rd.of_own dk_ fA aS.o;obtain⟨AD,xD,eD,_⟩:=Rd.of_own di_ eY bG.o;obtain⟨AR,xR,eR,_⟩:=Rd.of_own dY_ bN.o.len bR.o;obtain⟨AT,xT,eT,_⟩:=Rd.of_own dl_ fB cS.o;obtain⟨AH,xH,eH,_⟩:=Rd.of_own da_ eZ eE.o;subst eS eP eD eR eT eH;have bK:=hF.o _ R.o
           obtain⟨dO,bO⟩:=bK.row [.int .i64 hz,.slice AS n0 xS,.slice AP nP xP,.slice AD nD xD,.slice AR nR xR,.slice AT nT xT,.slice AH nH xH];obtain⟨wF,eV⟩:=e_ (jB.setRow bq (List.toArray [.int .i64 hz,.slice AS n0 xS,.slice AP nP xP,.slice AD nD xD,.slice AR nR xR,.slice AT nT xT,.slice AH nH xH]));rw [eV] at dO bO
           have d:RS wF (b4_ W) ⟨AS,AP,AD,AR,AT,AH,n0,nP,nD,nR,nT,nH,xS,xP,xD,xR,xT,xH⟩:=by
            refine⟨bl_ ad_ L0.o (ae_ aM.o bK (by decide) bO),?_,?_,?_,?_,?_⟩
            ·show Rd _ _ _ _ _ (aI_ (bO_ W) W.paths.length);rw [LP.o];exact bl_ dk_ fA (ae_ aS.o bK (by decide) bO)
            ·show Rd _ _ _ _ _ (aI_ (bN_ W) W.doors.length);rw [LD.o];exact bl_ di_ eY (ae_ bG.o bK (by decide) bO)
            ·show bD_ _ _ _ (aI_ (bJ_ W) W.routes.length);rw [LR.o];exact(bN.o.up (fun _ _ _ _ _ _ he _ h=>ae_ h bK (by rcases he with rfl|rfl<;>decide) bO)).done (bl_ dY_ bN.o.len (ae_ bR.o bK (by decide) bO)) eG.o
            ·show Rd _ _ _ _ _ (aI_ (bP_ W) W.trips.length);rw [LT.o];exact bl_ dl_ fB (ae_ cS.o bK (by decide) bO)
            ·show Rd _ _ _ _ _ (aI_ (bv_ W) W.hazs.length);rw [LH.o];exact bl_ da_ eZ (ae_ eE.o bK (by decide) bO)
           have cG:Below we.heap.size we wF:=(Z.o _ (aI.o _ R.o)).trans (bO.below (Z.o _ (aI.o _ R.o)).size (m_ fU.o));have d:=H_ d;have cG:=H_ cG;have bK:=H_ bK;have dO:=H_ dO;rename_i gY gZ hA hD;clear gY gZ hA hD bO aV fA eY fB eZ aM aS bG bR cS eE bN;go_upto_region 31 with fail;refine wp_region_lit ?_;refine cO_ (.tmp 4) 136 rfl rfl rfl c.o (by kernel_rfl) (by kernel_rfl) ?_;refine ac_ (.tmp 2) (.tmp 269) 136 rfl rfl rfl rfl bK.o (by kernel_rfl) rfl rfl eV ?_;refine wpList_nil ?_;clear eV c;rename_i hE;refine hE _ _ (wp_ret ?_);refine ar_ (s:=2) (t:=136) rfl rfl dO.o (by kernel_rfl) (by kernel_rfl) rfl ?_;exact⟨⟨AS,AP,AD,AR,AT,AH,n0,nP,nD,nR,nT,nH,xS,xP,xD,xR,xT,xH⟩,by simp only [sVal,b4_,gG.o],d.o,cG.o⟩
