/- Merged. -/
import Derived.Test.YtechdefolfboeaaGreatDoorPd17
import Derived.Test.YtechdefolfboeaaGreatDoorPd38
import Derived.Test.YtechdefolfboeaaGreatDoorPd41
set_option linter.unusedVariables false
set_option linter.unusedSimpArgs false
set_option maxHeartbeats 4000000
namespace Go.Proofs.YtechdefolfboeaaGreatDoor
open Go.RowKit B
set_option maxRecDepth 100000 in
theorem iq_ (X:ay_) (V:SV) (we:World) (hr:RS we X V) (hf:FewS X):Calls Tryz.prog 144 #[sVal X V] we (lG_ X we):=by
 obtain⟨a0,aP,aD,aR,aT,aH,n0,nP,nD,nR,nT,nH,c0,cP,cD,cR,cT,cH⟩:=V;have LP:Hd (X.paths.length=nP):=hr.rP.len;have LD:Hd (X.doors.length=nD):=hr.rD.len;have LR:Hd (X.routes.length=nR):=hr.rR.len;have LT:Hd (X.trips.length=nT):=hr.rT.len;have LH:Hd (X.hazs.length=nH):=hr.rH.len;have L0:Hd (X.stops.length=n0):=hr.r0.len;have m0:n0<=100000:=by have:=hf.s0;have:=L0.o;omega
 have mP:nP<=100000:=by have:=hf.sP;have:=LP.o;omega
 have mD:nD<=100000:=by have:=hf.sD;have:=LD.o;omega
 have mR:nR<=100000:=by have:=hf.sR;have:=LR.o;omega
 have mT:nT<=100000:=by have:=hf.sT;have:=LT.o;omega
 have mH:nH<=100000:=by have:=hf.sH;have:=LH.o;omega
 have hS:=H_ hf.sr;have hQ:=H_ hf;simp only [sVal];obtain⟨w1,dV,bV,B1⟩:=box0 we 136 [.int .i64 X.hz,.slice a0 n0 c0,.slice aP nP cP,.slice aD nD cD,.slice aR nR cR,.slice aT nT cT,.slice aH nH cH];obtain⟨w2,fK,bX,Bq⟩:=box0 w1 31 [.int .i64 0,.slice none 0 0,.slice none 0 0,.slice none 0 0,.slice none 0 0,.slice none 0 0,.slice none 0 0,.slice none 0 0,.slice none 0 0,.slice none 0 0,.slice none 0 0,.slice none 0 0];have dA:=B1.below bX;obtain⟨bn,fI⟩:=e_ we.heap.size;obtain⟨bq,gH⟩:=e_ (bn+1);have eI:w1.heap.size=bq:=by rw [<-gH, <-fI, <-dV];simp
 rw [fI] at dA;rw [eI] at Bq;have gA:Hd (we.heap.size<=bq):=by have:=bV.size;show _<=_;omega
 have gL:Hd (∀ U,Below w2.heap.size w2 U ->Below we.heap.size we U):=fun U hU=>u_ bV (bX.trans (hU.mono bX.size));have hR:=(hr.below bV).below bX;have hJ:=H_ hR;have dU:Hd (Rd w2 1 strE a0 n0 X.stops):=hR.r0;have iD:Hd (Rd w2 4 aR_ aP nP X.paths):=hR.rP;have iB:Hd (Rd w2 7 aQ_ aD nD X.doors):=hR.rD;have iE:Hd (bD_ w2 aR nR X.routes):=hR.rR;have iF:Hd (Rd w2 5 aS_ aT nT X.trips):=hR.rT;have iC:Hd (Rd w2 5 a2_ aH nH X.hazs):=hR.rH;have aK:=dA.lt;have hM:Hd (bq<w2.heap.size):=Bq.lt;obtain⟨y0,y1,y2,y3,y4,y5,y6⟩:=c_7 dA;have B1:=H_ dA;have Bq:=H_ Bq;rename_i gP gQ;clear gP gQ hr hf bV bX dA hR;go_enter Tryz.func144,Tryz.ntmps144;go_wp2_with fail;clear dV fK fI gH eI
 go_wp2
 refine a0_ (fun fl x w=>GS w2 [(fl 3,x 3,gK_ X),(fl 5,x 5,KBox w2.heap.size 31 [.int .i64 0,.slice none 0 0,.slice none 0 0,.slice none 0 0,.slice none 0 0,.slice none 0 0,.slice none 0 0,.slice none 0 0,.slice none 0 0,.slice none 0 0,.slice none 0 0,.slice none 0 0])] [] [fl 3] (fl 4) (x 4) (x 5) 31 (Value.int .i64 X.hz::(gQ_ (x 3)++[.slice none 0 0,.slice none 0 0,.slice none 0 0,.slice none 0 0,.slice none 0 0])) (fl 6) w) (by kernel_rfl) (by kernel_rfl) (by kernel_rfl) (by kernel_rfl) (by kernel_rfl) ?_ ?_
 ·intro x0;refine GS.start ?_ ?_ ?_ rfl rfl
  ·intro e he;simp only [List.mem_cons,List.not_mem_nil,or_false] at he;rcases he with rfl|rfl<;>first|exact gK_.mono _|exact KNil.mono _ _ _|exact KOwn.mono _ _ _ _ _|exact KBox.mono _ _ _
  ·intro e he;simp only [List.mem_cons,List.not_mem_nil,or_false] at he;rcases he with rfl|rfl<;>rfl
  ·intro e he;cases he
 intro base O aM hO;have F:Hd (∀ G,evX base O G (.tmp 1)= .pointer (some ⟨bn,0,none⟩)/\evX base O G (.tmp 3)=G 5/\evX base O G (.tmp 12)=G 0/\evX base O G (.tmp 13)=G 1/\evX base O G (.tmp 14)=G 2/\evX base O G (.tmp 15)=G 3/\evX base O G (.tmp 16)=G 4):=fun G=>by rw [aM,hO];exact⟨rfl,rfl,rfl,rfl,rfl,rfl,rfl⟩
 clear aM hO;apply gd_ (n:=0);rfl
 ·intro _ g w _ m n _ _ r _ K t;have e1:=(r _).trans (F.o g).1;clear r n;go_simp;exact t _ _ rfl m
 apply gd_ (n:=1);rfl
 ·intro _ g w _ m n _ _ r _ K t;have d0:=n.at_ 0 rfl rfl;have fV:=(r _).trans ((F.o g).2.2.1.trans d0);clear r n;have m0:=c_ m.bel aK y0;go_simp;exact t _ _ rfl m
 apply gd_ (n:=2);rfl
 ·intro _ g w _ m n _ _ r _ K t;have e1:=(r _).trans (F.o g).1;clear r n;have m0:=c_ m.bel aK y0;have m1:=c_ m.bel aK y1;have m2:=c_ m.bel aK y2;have m3:=c_ m.bel aK y3;have m4:=c_ m.bel aK y4;have m5:=c_ m.bel aK y5;have m6:=c_ m.bel aK y6;go_simp;exact t _ _ rfl m
 refine ga_ (n:=3) (fun _=>True) ?_ ?_
 ·intro _ g w _ m n p _ r _ K t;have d2:=n.at_ 2 rfl rfl;have kB:=(r _).trans ((F.o g).2.2.2.2.1.trans d2);clear r n;go_simp;refine(mw_ X ⟨a0,aP,aD,aR,aT,aH,n0,nP,nD,nR,nT,nH,c0,cP,cD,cR,cT,cH⟩ w (hJ.o.below m.bel) hQ.o).mono ?_;rintro e cY ⟨b0,b1,b2,b3,b4,b5,k0,k1,k2,k3,k4,k5,rfl,h0,h1,h2,h3,h4,h5,hb⟩;exact⟨_,rfl,t _ _ trivial (m.step 0 rfl p (by simp) hb ⟨b0,b1,b2,b3,b4,b5,k0,k1,k2,k3,k4,k5,rfl,h0,h1,h2,h3,h4,h5⟩ bk_)⟩
 refine ga_ (n:=4) (fun _=>True) ?_ ?_
 ·intro _ g w _ m n p r s _ K u;have d1:=n.at_ 1 rfl rfl;have kA:=(s _).trans ((F.o g).2.2.2.1.trans d1);have gS:=(s _).trans (q4_ (F.o g)).2.1;clear s n;obtain⟨wz,hW⟩:=m.wit 0 rfl (al_ r 3 rfl);obtain⟨b0,b1,b2,b3,b4,b5,k0,k1,k2,k3,k4,k5,dQ,_⟩:=hW;have S:=m.built (xb':= .agg (List.toArray (Value.int .i64 X.hz::(gQ_ (g 3)++[.slice none 0 0,.slice none 0 0,.slice none 0 0,.slice none 0 0,.slice none 0 0])))) p (by simp [al_ r 3 rfl]) rfl;rw [dQ] at gS;have hv:(Value.agg #[.int .i64 X.hz,.slice b0 X.stops.length k0,.slice b1 X.paths.length k1,.slice b2 X.doors.length k2,.slice b3 X.routes.length k3,.slice b4 X.trips.length k4,.slice b5 X.hazs.length k5,.slice none 0 0,.slice none 0 0,.slice none 0 0,.slice none 0 0,.slice none 0 0])= .agg (List.toArray (Value.int .i64 X.hz::(gQ_ (g 3)++[.slice none 0 0,.slice none 0 0,.slice none 0 0,.slice none 0 0,.slice none 0 0]))):=by rw [dQ];rfl
  go_simp;exact(congrArg (fun q=>K q w) hv).mpr (u _ _ trivial S)
 refine ga_ (n:=5) (fun _=>True) ?_ ?_
 ·intro _ _ w _ m n p _ r _ K t;clear r n;have S:=m.bel.size;go_simp;exact t _ _ trivial (m.stepO 1 rfl p (ag_ _ _ _) ⟨_,rfl,S,Bx.new w _ _⟩ bk_)
 refine ga_ (n:=6) (fun _=>True) ?_ ?_
 ·intro f g w _ m n p q r _ K t;have e3:=(r _).trans (F.o g).2.1;have gT:=(r _).trans (q4_ (F.o g)).2.2;clear r n;have bE:=m.ini p;obtain⟨gq,aW,dM,P⟩:=bE.get 1 rfl (al_ q 5 rfl);obtain⟨aG,dD⟩:=m.bd (al_ q 4 rfl);obtain⟨b0,b1,b2,b3,b4,b5,k0,k1,k2,k3,k4,k5,dQ,_⟩:=bE.get 0 rfl (aG _ (by simp));have bU: ∀ e∈[f 3,f 5],e=true:=by simp [al_ q 5 rfl,aG (f 3) (by simp)]
  have Y:(Value.int .i64 X.hz::(gQ_ (g 3)++[.slice none 0 0,.slice none 0 0,.slice none 0 0,.slice none 0 0,.slice none 0 0])).length =12:=by rw [dQ];rfl
  exact aP_ (.tmp 3) (.tmp 16) 31 rfl (e3.trans aW) (gT.trans dD) P (by rw [Y];kernel_rfl) (by rw [Y];rfl) (by simp [dQ,gQ_,Value.oneCell']) (fun w' hB bR=>t _ _ trivial (m.put p (al_ q 4 rfl) (by simpa using bU) aW dM P.lt hB bR))
 clear F;intro G wo hG hI;clear hI;have cI:=hG.bel;obtain⟨kH,bo,dC,dK,eG,gC,aJ,aV⟩:=hG.fin rfl;clear hG;have iS:=dC.get 0 rfl rfl;have iT:=dC.get 1 rfl rfl;simp only [List.append_eq,List.cons_append,List.nil_append,aA_,List.setIfInBounds_toArray,List.set_cons_zero,List.set_cons_succ,Nat.zero_add,Nat.reduceAdd];obtain⟨bz,dG,_,bJ⟩:=iT;rw [dK] at dG;cases dG;obtain⟨A0,A1,A2,A3,A4,A5,x0,x1,x2,x3,x4,x5,cA,r0,r1,r2,r3,r4,r5⟩:=iS;rw [L0.o] at r0 cA;rw [LP.o] at r1 cA;rw [LD.o] at r2 cA;rw [LR.o] at r3 cA;rw [LT.o] at r4 cA;rw [LH.o] at r5 cA;rw [cA] at aJ;have aJ:Bx wo bo 31 [.int .i64 X.hz,.slice A0 n0 x0,.slice A1 nP x1,.slice A2 nD x2,.slice A3 nR x3,.slice A4 nT x4,.slice A5 nH x5,.slice none 0 0,.slice none 0 0,.slice none 0 0,.slice none 0 0,.slice none 0 0]:=aJ
 have cK: ∀ v∈([.int .i64 0,.slice none 0 0,.slice none 0 0,.slice none 0 0,.slice none 0 0,.slice none 0 0,.slice none 0 0,.slice none 0 0,.slice none 0 0,.slice none 0 0,.slice none 0 0,.slice none 0 0]:List Value), ∀ s,v≠ .string s:=by intro v hv s;simp at hv;rcases hv with rfl|rfl<;>simp
 have r0:=r0.keep_box bJ cK aV;have r1:=r1.keep_box bJ cK aV;have r2:=r2.keep_box bJ cK aV;have r3:=r3.keep_box bJ cK aV;have r4:=r4.keep_box bJ cK aV;have r5:=r5.keep_box bJ cK aV;obtain⟨bG,gM⟩: ∃ q,q=wo:=⟨_,rfl⟩
 subst gM;have aC:Hd (Bx bG bo 31 [.int .i64 X.hz,.slice A0 n0 x0,.slice A1 nP x1,.slice A2 nD x2,.slice A3 nR x3,.slice A4 nT x4,.slice A5 nH x5,.slice none 0 0,.slice none 0 0,.slice none 0 0,.slice none 0 0,.slice none 0 0]):=aJ
 have fE:Hd (∀ U,But bG U [bo] ->Rd U 1 strE A0 n0 X.stops/\Rd U 1 strE A1 nP (X.paths.map (·.name))/\Rd U 1 strE A2 nD (X.doors.map (·.name))/\Rd U 1 strE A3 nR (X.routes.map (·.name))/\Rd U 1 strE A4 nT (X.trips.map (·.name))/\Rd U 1 strE A5 nH (X.hazs.map (·.name))):=fun U hU=>by
  have bB: ∀ v∈([.int .i64 X.hz,.slice A0 n0 x0,.slice A1 nP x1,.slice A2 nD x2,.slice A3 nR x3,.slice A4 nT x4,.slice A5 nH x5,.slice none 0 0,.slice none 0 0,.slice none 0 0,.slice none 0 0,.slice none 0 0]:List Value), ∀ s,v≠ .string s:=by intro v hv s;simp at hv;rcases hv with rfl|rfl|rfl|rfl|rfl|rfl|rfl|rfl<;>simp
  exact⟨r0.keep_box aJ bB hU,r1.keep_box aJ bB hU,r2.keep_box aJ bB hU,r3.keep_box aJ bB hU,r4.keep_box aJ bB hU,r5.keep_box aJ bB hU⟩
 have d:Hd (bo<bG.heap.size):=aJ.lt;have aA:Hd (∀ U,But bG U [bo] ->Below w2.heap.size w2 U):=fun U hU=>cI.trans (hU.below cI.size (m_ eG));have hH:Hd (∀ U,But bG U [bo] ->Bx U bq 31 [.int .i64 0,.slice none 0 0,.slice none 0 0,.slice none 0 0,.slice none 0 0,.slice none 0 0,.slice none 0 0,.slice none 0 0,.slice none 0 0,.slice none 0 0,.slice none 0 0,.slice none 0 0]):=fun U hU=>Bq.o.below (aA.o U hU);have N:Hd (But bG bG [bo]):=But.refl _ _;rw [dK];clear cI dC dK eG gC aJ aV bJ cA cK r0 r1 r2 r3 r4 r5 aK y0 y1 y2 y3 y4 y5 y6
 go_wp2
 go_loopw [4] (fun iv wr=> ∃ (i:Nat) (u:Value),i<=nP/\iv= .int .i64 i/\Hd (Bx wr bo 31 [.int .i64 X.hz,.slice A0 n0 x0,.slice A1 nP x1,.slice A2 nD x2,.slice A3 nR x3,.slice A4 nT x4,.slice A5 nH x5,u,.slice none 0 0,.slice none 0 0,.slice none 0 0,.slice none 0 0])/\Hd (wr.ownsRow bG.heap.size 99 3 u i (((X.paths.take i).map (numP X)).flatMap az_))/\Hd (But bG wr [bo])) (fun iv _=>nP-(intOf iv).toNat)
 ·exact⟨0,.slice none 0 0,Nat.zero_le _,rfl,aC,World.ownsRow_nil _ _ _ _,But.refl _ _⟩
 ·obtain⟨i,u,hi,rfl,y,own,j⟩:=hrel;have D:=aA.o _ (N.o.trans j.o);have y0:=(B1.o.below D).cell 2 rfl;by_cases aX:i<nP
  ·have cS:(i:Int)<(nP:Int):=by omega
   obtain⟨b,o,⟨q0,q1,q2,q3⟩,rfl,a,hx,Z⟩:=iD.o.get aX;have f0:=Z 0 _ rfl;have f1:=Z 1 _ rfl;have f2:=Z 2 _ rfl;have f3:=Z 3 _ rfl;simp only [Nat.add_zero] at f0;clear Z;have aN:(X.paths.take (i+1)).map (numP X)=(X.paths.take i).map (numP X)++[numP X ⟨q0,q1,q2,q3⟩]:=by rw [an_ hx,List.map_append,List.map_singleton]
   have Y:((X.paths.take i).map (numP X)).length =i:=by rw [List.length_map,List.length_take,LP.o];omega
   clear hx
   go_wp2
   refine wl_ [0,0,0,0,0,0,0,0,0,0,0,0,0,0,0,0,0,0,0,0,0,0,0,0,0,0,0,2,2,2,2] ?_;intro C hC;simp only [af_,Nat.reduceEqDiff, ↓reduceIte]
   repeat(go_big_quiet_step (first
    |(intro _;with_reducible rfl)
    |(intro hc;have hR:=N.o.trans (j.o.trans (But.of_below hc _));have c:=aA.o _ hR;simp only [(y.o.below hc).cell 7 rfl,(B1.o.below c).cell 1 rfl,(B1.o.below c).cell 2 rfl,c_ c a f1,c_ c a f2,c_ c a f3,Result.andThen];exact⟨trivial,rfl⟩)
    |(intro hc;with_reducible refine(c4_ a0 n0 c0 X.stops _ _ (dU.o.below (aA.o _ (N.o.trans (j.o.trans (But.of_below hc _))))) (by omega)).mono ?_;rintro e cY ⟨rfl,rfl⟩;exact⟨rfl,hc⟩)))
   clear hC;intro C' bN;clear bN;intro wq P;obtain⟨W1,W2,W3,va,vb,h1,h2,h3,⟨_,b2,b3⟩,⟨_,_,t3⟩,_,J,M,gv,cv,bA⟩:=ci_ (enc:=az_) Tryz.underlying25 fb_ rfl (by decide) b9_ eI_ (by decide) (f:=7) (T:=31) (numP X ⟨q0,q1,q2,q3⟩) (y.o.below P) (aa_ own.o P) Y (by omega) d.o (j.o.trans (But.of_below P _));rw [<-aN] at M;have M:=H_ M;have aY:Hd (Bx W3 bo 31 [.int .i64 X.hz,.slice A0 n0 x0,.slice A1 nP x1,.slice A2 nD x2,.slice A3 nR x3,.slice A4 nT x4,.slice A5 nH x5,vb,.slice none 0 0,.slice none 0 0,.slice none 0 0,.slice none 0 0]):=b3;have aZ:=H_ t3;have v5:=b2.cell 7 rfl;have v6:=b2.frozen 7;subst h1 h2 bA;have J:(Builtin.append_ #[25,25] 25 #[u,.slice (some ⟨wq.heap.size,0,none⟩) 1 1]).run Tryz.prog (wq.alloc (.cells ([.int .i64 (ai_ X.stops q1),.int .i64 (ai_ X.stops q2),.int .i64 q3]).toArray 99))= .ok (.slice (some ⟨gv,0,none⟩) (i+1) cv) W2:=J;rename_i k1 k2 k3 k4
   clear k1 k2 k3 k4 aN Y b2 b3 t3 own y j P D;go_wp2_with (at_builtin;refine ap_ (.tmp 25) (.tmp 51) 25 J ?_);go_roundw
   ·exact⟨i+1,_,by omega,by go_num,aY,M,aZ⟩
   ·simp [intOf];omega
  ·obtain rfl:nP=i:=by omega
   have own:Hd (wr.ownsRow bG.heap.size 99 3 u nP ((X.paths.map (numP X)).flatMap az_)):=by have:=own.o;rw [List.take_of_length_le (by rw [LP.o];omega)] at this;exact this
   have Q: ∀ {e:TypeId} {z n:Nat} {v:Value} {G:List Value} {b:Nat},31≠e ->bG.ownsRow b e z v n G ->wr.ownsRow b e z v n G:=fun he h=>ae_ h aC.o he j.o;have aQ:=own;have aF:=H_ (N.o.trans j.o);have aE:=y;have R:Hd (bo<wr.heap.size):=y.o.lt;obtain⟨uP,iI⟩: ∃ q,q=u:=⟨_,rfl⟩
   subst iI;obtain⟨dZ,dV⟩: ∃ q,q=wr:=⟨_,rfl⟩
   subst dV;clear Q own y j N aC d hi aX;have N:=aF;have aC:=aE;have d:=R;clear aF aE R
   go_wp2
   go_loopw [5] (fun iv wr=> ∃ (i:Nat) (u:Value),i<=nD/\iv= .int .i64 i/\Hd (Bx wr bo 31 [.int .i64 X.hz,.slice A0 n0 x0,.slice A1 nP x1,.slice A2 nD x2,.slice A3 nR x3,.slice A4 nT x4,.slice A5 nH x5,uP,u,.slice none 0 0,.slice none 0 0,.slice none 0 0])/\Hd (wr.ownsRow dZ.heap.size 104 6 u i (((X.doors.take i).map (numD X)).flatMap aJ_))/\Hd (But dZ wr [bo])) (fun iv _=>nD-(intOf iv).toNat)
   ·exact⟨0,.slice none 0 0,Nat.zero_le _,rfl,aC,World.ownsRow_nil _ _ _ _,But.refl _ _⟩
   ·obtain⟨i,u,hi,rfl,y,own,j⟩:=hrel;have D:=aA.o _ (N.o.trans j.o);have y0:=(B1.o.below D).cell 3 rfl;by_cases aX:i<nD
    ·have cS:(i:Int)<(nD:Int):=by omega
     obtain⟨b,o,⟨q0,q1,q2,q3,q4,q5,q6⟩,rfl,a,hx,Z⟩:=iB.o.get aX;have f0:=Z 0 _ rfl;have f1:=Z 1 _ rfl;have f2:=Z 2 _ rfl;have f3:=Z 3 _ rfl;have f4:=Z 4 _ rfl;have f5:=Z 5 _ rfl;have f6:=Z 6 _ rfl;simp only [Nat.add_zero] at f0;clear Z;have aN:(X.doors.take (i+1)).map (numD X)=(X.doors.take i).map (numD X)++[numD X ⟨q0,q1,q2,q3,q4,q5,q6⟩]:=by rw [an_ hx,List.map_append,List.map_singleton]
     have Y:((X.doors.take i).map (numD X)).length =i:=by rw [List.length_map,List.length_take,LD.o];omega
     clear hx
     go_wp2
     refine wl_ [0,0,0,0,0,0,0,0,0,0,0,0,0,0,0,0,0,0,0,0,0,0,0,0,0,0,0,0,0,0,0,0,0,2,2,2,2] ?_;intro C hC;simp only [af_,Nat.reduceEqDiff, ↓reduceIte]
     repeat(go_big_quiet_step (first
      |(intro _;with_reducible rfl)
      |(intro hc;have hR:=N.o.trans (j.o.trans (But.of_below hc _));have c:=aA.o _ hR;simp only [(y.o.below hc).cell 8 rfl,(B1.o.below c).cell 1 rfl,(B1.o.below c).cell 3 rfl,c_ c a f1,c_ c a f2,c_ c a f3,c_ c a f4,c_ c a f5,c_ c a f6,Result.andThen];exact⟨trivial,rfl⟩)
      |(intro hc;with_reducible refine(c4_ a0 n0 c0 X.stops _ _ (dU.o.below (aA.o _ (N.o.trans (j.o.trans (But.of_below hc _))))) (by omega)).mono ?_;rintro e cY ⟨rfl,rfl⟩;exact⟨rfl,hc⟩)))
     clear hC;intro C' bN;clear bN;intro wq P;obtain⟨W1,W2,W3,va,vb,h1,h2,h3,⟨_,b2,b3⟩,⟨_,_,t3⟩,_,J,M,gv,cv,bA⟩:=ci_ (enc:=aJ_) Tryz.underlying26 fa_ rfl (by decide) bL_ fD_ (by decide) (f:=8) (T:=31) (numD X ⟨q0,q1,q2,q3,q4,q5,q6⟩) (y.o.below P) (aa_ own.o P) Y (by omega) d.o (j.o.trans (But.of_below P _));rw [<-aN] at M;have M:=H_ M;have aY:Hd (Bx W3 bo 31 [.int .i64 X.hz,.slice A0 n0 x0,.slice A1 nP x1,.slice A2 nD x2,.slice A3 nR x3,.slice A4 nT x4,.slice A5 nH x5,uP,vb,.slice none 0 0,.slice none 0 0,.slice none 0 0]):=b3;have aZ:=H_ t3;have v5:=b2.cell 8 rfl;have v6:=b2.frozen 8;subst h1 h2 bA;have J:(Builtin.append_ #[26,26] 26 #[u,.slice (some ⟨wq.heap.size,0,none⟩) 1 1]).run Tryz.prog (wq.alloc (.cells ([.int .i64 (ai_ X.stops q1),.int .i64 (ai_ X.stops q2),.int .i64 q3,.int .i64 q4,.int .i64 q5,.int .i64 q6]).toArray 104))= .ok (.slice (some ⟨gv,0,none⟩) (i+1) cv) W2:=J
     rename_i k1 k2 k3 k4;clear k1 k2 k3 k4 aN Y b2 b3 t3 own y j P D;go_wp2_with (at_builtin;refine ap_ (.tmp 62) (.tmp 94) 26 J ?_);go_roundw
     ·exact⟨i+1,_,by omega,by go_num,aY,M,aZ⟩
     ·simp [intOf];omega
    ·obtain rfl:nD=i:=by omega
     have own:Hd (wr.ownsRow dZ.heap.size 104 6 u nD ((X.doors.map (numD X)).flatMap aJ_)):=by have:=own.o;rw [List.take_of_length_le (by rw [LD.o];omega)] at this;exact this
     have Q: ∀ {e:TypeId} {z n:Nat} {v:Value} {G:List Value} {b:Nat},31≠e ->dZ.ownsRow b e z v n G ->wr.ownsRow b e z v n G:=fun he h=>ae_ h aC.o he j.o;have aL:=H_ (Q (by decide) aQ.o);have bF:=own;have aF:=H_ (N.o.trans j.o);have aE:=y;have R:Hd (bo<wr.heap.size):=y.o.lt;obtain⟨uD,iG⟩: ∃ q,q=u:=⟨_,rfl⟩
     subst iG;obtain⟨cL,fK⟩: ∃ q,q=wr:=⟨_,rfl⟩
     subst fK;clear Q own y j N aC d hi aX;clear aQ;have aQ:=aL;have N:=aF;have aC:=aE;have d:=R;clear aF aE R aL
     go_wp2
     go_loopw [6] (fun iv wr=> ∃ (i:Nat) (u:Value) (L:List RE3),i<=nR/\iv= .int .i64 i/\Hd (Bx wr bo 31 [.int .i64 X.hz,.slice A0 n0 x0,.slice A1 nP x1,.slice A2 nD x2,.slice A3 nR x3,.slice A4 nT x4,.slice A5 nH x5,uP,uD,u,.slice none 0 0,.slice none 0 0])/\Hd (wr.ownsRow cL.heap.size 51 3 u i (L.flatMap re3E))/\Hd (aD_ (RouT cL.heap.size) wr L ((X.routes.take i).map (numR X)))/\Hd (But cL wr [bo])) (fun iv _=>nR-(intOf iv).toNat)
     ·exact⟨0,.slice none 0 0,[],Nat.zero_le _,rfl,aC,World.ownsRow_nil _ _ _ _,aD_.nil,But.refl _ _⟩
     ·obtain⟨i,u,L,hi,rfl,y,own,hT,j⟩:=hrel;have D:=aA.o _ (N.o.trans j.o);have y0:=(B1.o.below D).cell 4 rfl;by_cases aX:i<nR
      ·have cS:(i:Int)<(nR:Int):=by omega
       obtain⟨b,o,r,rfl,a,hx,f0,⟨s1,m1,d1,f1,dW,fC,fV⟩,⟨s2,m2,d2,f2,dX,gU,gV⟩,⟨s3,m3,d3,f3,dY,gW,gX⟩⟩:=iE.o.get aX;obtain⟨hX,hY,hZ⟩:=hS.o r (List.mem_of_getElem? hx);have kC:m1<=100000:=by have:=dW.len;omega
       have kD:m2<=100000:=by have:=dX.len;omega
       have kE:m3<=100000:=by have:=dY.len;omega
       have F1:=c_ D a f2;have F2:=c_ D a f3;have zb:=Nat.lt_of_lt_of_le a D.size;have aK:=(B1.o.below D).lt;have R1:=H_ dW;have R2:=H_ (dX.below D);have R3:=H_ (dY.below D);have N1:=H_ dW.len;have N2:=H_ dX.len;have N3:=H_ dY.len;have aN:(X.routes.take (i+1)).map (numR X)=(X.routes.take i).map (numR X)++[numR X r]:=by rw [an_ hx,List.map_append,List.map_singleton]
       have aN:=H_ aN;have hF:Hd (L.length=i):=by have:=hT.o.len;rw [List.length_map,List.length_take,LR.o] at this;show _=_;omega
       have fO:=H_ f1;obtain⟨wo,iP⟩: ∃ q,q=wr:=⟨_,rfl⟩
       subst iP;rename_i gJ;clear gJ dW dX dY hx hX hY hZ fC fV gU gV gW gX f0 f1 f2 f3 D
       go_wp2
       refine a0_ (fun fl x w=>GS wo [(fl 0,x 0,KNil wo.heap.size 2 1),(fl 7,x 7,KOwn wo.heap.size 2 1 m2 (r.rides.flatMap (numE .i64))),(fl 8,x 8,KNil wo.heap.size 2 1),(fl 15,x 15,KOwn wo.heap.size 2 1 m3 (r.stays.flatMap (numE .i64))),(fl 17,x 17,KBox wo.heap.size 51 [.slice none 0 0,.slice none 0 0,.slice none 0 0])] [(fl 7,fl 0),(fl 15,fl 8)] [fl 7,fl 15] (fl 16) (x 16) (x 17) 51 [.slice none 0 0,(x 7),(x 15)] (fl 18) w) (by kernel_rfl) (by kernel_rfl) (by kernel_rfl) (by kernel_rfl) (by kernel_rfl) ?_ ?_
       ·intro x0;refine GS.start ?_ ?_ ?_ rfl rfl
        ·intro e he;simp only [List.mem_cons,List.not_mem_nil,or_false] at he;rcases he with rfl|rfl|rfl|rfl|rfl<;>first|exact KNil.mono _ _ _|exact KOwn.mono _ _ _ _ _|exact KBox.mono _ _ _
        ·intro e he;simp only [List.mem_cons,List.not_mem_nil,or_false] at he;rcases he with rfl|rfl|rfl|rfl|rfl<;>rfl
        ·intro e he;simp only [List.mem_cons,List.not_mem_nil,or_false] at he;rcases he with rfl|rfl<;>rfl
       intro base O aM hO;have F:Hd (∀ G,evX base O G (.tmp 1)= .pointer (some ⟨bn,0,none⟩)/\evX base O G (.tmp 6)= .int .i64 (i:Int)/\evX base O G (.tmp 7)=G 17/\evX base O G (.tmp 104)=G 0/\evX base O G (.tmp 105)=G 1/\evX base O G (.tmp 106)=G 2/\evX base O G (.tmp 107)=G 3/\evX base O G (.tmp 108)=G 4/\evX base O G (.tmp 109)=G 5/\evX base O G (.tmp 110)=G 6/\evX base O G (.tmp 111)=G 7/\evX base O G (.tmp 112)=G 8/\evX base O G (.tmp 113)=G 9/\evX base O G (.tmp 114)=G 10/\evX base O G (.tmp 115)=G 11/\evX base O G (.tmp 116)=G 12/\evX base O G (.tmp 117)=G 13/\evX base O G (.tmp 118)=G 14/\evX base O G (.tmp 119)=G 15/\evX base O G (.tmp 120)=G 16):=fun G=>by rw [aM,hO];exact⟨rfl,rfl,rfl,rfl,rfl,rfl,rfl,rfl,rfl,rfl,rfl,rfl,rfl,rfl,rfl,rfl,rfl,rfl,rfl,rfl⟩
       clear aM hO;refine ga_ (n:=0) (fun _=>True) ?_ ?_
       ·intro f _ w _ m n p _ r _ K t;clear r n;have S:=KNil.new w wo.heap.size 2 1 m.bel.size;go_simp;exact t _ _ trivial (m.stepO 0 rfl p (ag_ _ _ _) S (a4_ (fun _=>rfl) (a4_ (m.im (f 15,f 8) (by simp)) bk_)))
       apply gd_ (n:=1);rfl
       ·intro _ g w _ m n _ _ r _ K t;have e1:=(r _).trans (F.o g).1;clear r n;go_simp;exact t _ _ rfl m
       apply gd_ (n:=2);rfl
       ·intro _ g w _ m n _ _ r _ K t;have d1:=n.at_ 1 rfl rfl;have iZ:=(r _).trans ((F.o g).2.2.2.2.1.trans d1);clear r n;have m0:=c_ m.bel aK y0;go_simp;exact t _ _ rfl m
       apply gd_ (n:=3);rfl
       ·intro _ g w _ m n _ _ r _ K t;have e6:=(r _).trans (F.o g).2.1;clear r n;go_simp;exact t _ _ rfl m
       apply gd_ (n:=4);rfl
       ·intro _ g w _ m n _ _ r _ K t;have d2:=n.at_ 2 rfl rfl;have jA:=(r _).trans ((q4_ (F.o g)).2.1.trans d2);have d3:=n.at_ 3 rfl rfl;have jB:=(r _).trans ((q4_ (F.o g)).2.2.1.trans d3);clear r n;go_simp;exact t _ _ rfl m
       apply gd_ (n:=5);rfl
       ·intro _ g w _ m n _ _ r _ K t;have d4:=n.at_ 4 rfl rfl;have jC:=(r _).trans ((q4_ (F.o g)).2.2.2.1.trans d4);clear r n;go_simp;exact t _ _ rfl m
       apply gd_ (n:=6);rfl
       ·intro _ g w _ m n _ _ r _ K t;have d5:=n.at_ 5 rfl rfl;have jD:=(r _).trans ((q4_ (q4_ (F.o g))).1.trans d5);clear r n;have m0:=c_ m.bel zb F1;go_simp;exact t _ _ rfl m
       refine ga_ (n:=7) (fun _=>True) ?_ ?_
       ·intro f g w _ m n p q r _ K t;have fP:=(r _).trans (F.o g).2.2.2.1;have d6:=n.at_ 6 rfl rfl;have fQ:=(r _).trans ((q4_ (q4_ (F.o g))).2.1.trans d6);clear r n;obtain⟨hP,bE⟩:=m.ahead 1 rfl p;obtain⟨gq,aW,bZ⟩:=bE.get 0 rfl (al_ q 0 rfl);rw [aW] at bZ;have dO:=R2.o.below m.bel;have dF:=m.bel.size;obtain⟨vq,wq,J,dR,bV⟩:=dw_ Tryz.underlying45 bc_ rfl (by decide) aj_ d2 bZ dO (by omega) (by decide) dF;exact cN_ (.tmp 104) (.tmp 110) 45 rfl (fP.trans aW) fQ J (t _ _ trivial (m.step 1 rfl p (by simp) bV dR (a4_ (fun _=>al_ q 0 rfl) (a4_ (m.im (f 15,f 8) (by simp)) bk_))))
       refine ga_ (n:=8) (fun _=>True) ?_ ?_
       ·intro f _ w _ m n p _ r _ K t;clear r n;have S:=KNil.new w wo.heap.size 2 1 m.bel.size;go_simp;exact t _ _ trivial (m.stepO 2 rfl p (ag_ _ _ _) S (a4_ (m.im (f 7,f 0) (by simp)) (a4_ (fun _=>rfl) bk_)))
       apply gd_ (n:=9);rfl
       ·intro _ g w _ m n _ _ r _ K t;have e1:=(r _).trans (F.o g).1;clear r n;go_simp;exact t _ _ rfl m
       apply gd_ (n:=10);rfl
       ·intro _ g w _ m n _ _ r _ K t;have d9:=n.at_ 9 rfl rfl;have jE:=(r _).trans ((q4_ (q4_ (q4_ (F.o g)))).1.trans d9);clear r n;have m0:=c_ m.bel aK y0;go_simp;exact t _ _ rfl m
       apply gd_ (n:=11);rfl
       ·intro _ g w _ m n _ _ r _ K t;have e6:=(r _).trans (F.o g).2.1;clear r n;go_simp;exact t _ _ rfl m
       apply gd_ (n:=12);rfl
       ·intro _ g w _ m n _ _ r _ K t;have eX:=n.at_ 10 rfl rfl;have jF:=(r _).trans ((q4_ (q4_ (q4_ (F.o g)))).2.1.trans eX);have eY:=n.at_ 11 rfl rfl;have jG:=(r _).trans ((q4_ (q4_ (q4_ (F.o g)))).2.2.1.trans eY);clear r n;go_simp;exact t _ _ rfl m
       apply gd_ (n:=13);rfl
       ·intro _ g w _ m n _ _ r _ K t;have eZ:=n.at_ 12 rfl rfl;have jH:=(r _).trans ((q4_ (q4_ (q4_ (F.o g)))).2.2.2.1.trans eZ);clear r n;go_simp;exact t _ _ rfl m
       apply gd_ (n:=14);rfl
       ·intro _ g w _ m n _ _ r _ K t;have fA:=n.at_ 13 rfl rfl;have jI:=(r _).trans ((q4_ (q4_ (q4_ (q4_ (F.o g))))).1.trans fA);clear r n;have m0:=c_ m.bel zb F2;go_simp;exact t _ _ rfl m
       refine ga_ (n:=15) (fun _=>True) ?_ ?_
       ·intro f g w _ m n p q r _ K t;have fS:=(r _).trans (q4_ (q4_ (F.o g))).2.2.2.1;have fB:=n.at_ 14 rfl rfl;have fT:=(r _).trans ((q4_ (q4_ (q4_ (q4_ (F.o g))))).2.1.trans fB);clear r n;obtain⟨hP,bE⟩:=m.ahead 3 rfl p;obtain⟨gq,aW,bZ⟩:=bE.get 2 rfl (al_ q 8 rfl);rw [aW] at bZ;have dO:=R3.o.below m.bel;have dF:=m.bel.size;obtain⟨vq,wq,J,dR,bV⟩:=dw_ Tryz.underlying45 bc_ rfl (by decide) aj_ d3 bZ dO (by omega) (by decide) dF;exact cN_ (.tmp 112) (.tmp 118) 45 rfl (fS.trans aW) fT J (t _ _ trivial (m.step 3 rfl p (by simp) bV dR (a4_ (m.im (f 7,f 0) (by simp)) (a4_ (fun _=>al_ q 8 rfl) bk_))))
       refine ga_ (n:=16) (fun _=>True) ?_ ?_
       ·intro _ g w _ m n p q r _ K t;have fR:=(r _).trans (q4_ (q4_ (F.o g))).2.2.1;have fU:=(r _).trans (q4_ (q4_ (q4_ (q4_ (F.o g))))).2.2.1;clear r n;obtain⟨iX,cU⟩:=m.wit 1 rfl (al_ q 7 rfl);obtain⟨eQ,eU,bH,_⟩:=Rd.of_own aj_ N2.o cU;rw [bH] at fR;clear cU;obtain⟨iY,cV⟩:=m.wit 3 rfl (al_ q 15 rfl);obtain⟨eS,eV,bI,_⟩:=Rd.of_own aj_ N3.o cV;rw [bI] at fU;clear cV;have S:=m.built (xb':= .agg (List.toArray [.slice none 0 0,(g 7),(g 15)])) p (by simp [al_ q 7 rfl,al_ q 15 rfl]) rfl;go_simp;rw [<-bH];rw [<-bI];exact t _ _ trivial S
       refine ga_ (n:=17) (fun _=>True) ?_ ?_
       ·intro f _ w _ m n p _ r _ K t;clear r n;have S:=m.bel.size;go_simp;exact t _ _ trivial (m.stepO 4 rfl p (ag_ _ _ _) ⟨_,rfl,S,Bx.new w _ _⟩ (a4_ (m.im (f 7,f 0) (by simp)) (a4_ (m.im (f 15,f 8) (by simp)) bk_)))
       refine ga_ (n:=18) (fun _=>True) ?_ ?_
       ·intro f g w _ m n p q r _ K t;have e7:=(r _).trans (F.o g).2.2.1;have fW:=(r _).trans (q4_ (q4_ (q4_ (q4_ (F.o g))))).2.2.2;clear r n;have bE:=m.ini p;obtain⟨gq,aW,dM,P⟩:=bE.get 4 rfl (al_ q 17 rfl);obtain⟨aG,dD⟩:=m.bd (al_ q 16 rfl);obtain⟨eQ,eU,bH,_⟩:=Rd.of_own aj_ N2.o (bE.get 1 rfl (aG _ (by simp)));obtain⟨eS,eV,bI,_⟩:=Rd.of_own aj_ N3.o (bE.get 3 rfl (aG _ (by simp)));have bU: ∀ e∈[f 0,f 7,f 8,f 15,f 17],e=true:=by simp [al_ q 17 rfl,aG (f 7) (by simp),aG (f 15) (by simp),(show f 0=true from m.im (f 7,f 0) (by simp) (aG _ (by simp))),(show f 8=true from m.im (f 15,f 8) (by simp) (aG _ (by simp)))]
        exact aP_ (.tmp 7) (.tmp 120) 51 rfl (e7.trans aW) (fW.trans dD) P (by kernel_rfl) rfl (by simp [bH,bI,Value.oneCell']) (fun w' hB bR=>t _ _ trivial (m.put p (al_ q 16 rfl) (by simpa using bU) aW dM P.lt hB bR))
       clear F;intro G wj hG hI;clear hI;have aU:=hG.bel;obtain⟨kG,bj,bL,dJ,cO,jY,bD,cJ⟩:=hG.fin rfl;clear hG;have iR:=bL.get 0 rfl rfl;have fM:=bL.get 1 rfl rfl;have iU:=bL.get 2 rfl rfl;have fN:=bL.get 3 rfl rfl;have iV:=bL.get 4 rfl rfl;simp only [List.append_eq,List.cons_append,List.nil_append,aA_,List.setIfInBounds_toArray,List.set_cons_zero,List.set_cons_succ,Nat.zero_add,Nat.reduceAdd];obtain⟨cB,cE,fY,_⟩:=Rd.of_own aj_ N2.o fM;obtain⟨cC,cF,fZ,_⟩:=Rd.of_own aj_ N3.o fN;obtain⟨bz,dG,_,bJ⟩:=iV;rw [dJ] at dG;cases dG;have O2:=ae_ fM bJ (by decide) cJ;have O3:=ae_ fN bJ (by decide) cJ;rw [fY] at O2 bD;rw [fZ] at O3 bD;have O2:=H_ O2;have O3:=H_ O3;have bD:=H_ bD;have aU:=H_ aU;have cO:=H_ cO;have fH:Hd (bj<wj.heap.size):=bD.o.lt;have fG:Hd (∀ U,But wj U [bj] ->But bG U [bo]):=fun U hU=>N.o.trans (j.o.trans (But.of_below (aU.o.trans (hU.below aU.o.size (m_ cO.o))) _));rw [dJ]
       clear iR fM iU fN fY fZ bJ cJ dJ bL y0 zb aK F1 F2 R2 R3;rename_i k1 k2 k3 k4;clear k1 k2 k3 k4
       go_wp2
       go_loopw [8] (fun kv wr=> ∃ (k:Nat) (ux:Value),k<=m1/\kv= .int .i64 k/\Hd (Bx wr bj 51 [ux,.slice cB m2 cE,.slice cC m3 cF])/\Hd (wr.ownsRow wj.heap.size 3 1 ux k (((r.stops.take k).map (ai_ X.stops)).flatMap (numE .i64)))/\Hd (But wj wr [bj])) (fun kv _=>m1-(intOf kv).toNat)
       ·exact⟨0,.slice none 0 0,Nat.zero_le _,rfl,bD,World.ownsRow_nil _ _ _ _,But.refl _ _⟩
       ·obtain⟨k,ux,hk,rfl,bY,cW,aI⟩:=hrel;have bQ:=aA.o _ (fG.o _ aI.o);have y0:=(B1.o.below bQ).cell 4 rfl;have F0:=c_ bQ a fO.o;by_cases hV:k<m1
        ·have jZ:(k:Int)<(m1:Int):=by omega
         obtain⟨b2,o2,sx,rfl,hL,gN,h0⟩:=R1.o.str hV;have gK:(r.stops.take (k+1)).map (ai_ X.stops)=(r.stops.take k).map (ai_ X.stops)++[ai_ X.stops sx]:=by rw [an_ gN,List.map_append,List.map_singleton]
         have Y:((r.stops.take k).map (ai_ X.stops)).length =k:=by rw [List.length_map,List.length_take];have:=N1.o;omega
         clear bQ
         go_wp2
         refine wl_ [0,0,0,0,0,0,0,0,0,0,0,0,0,0,2,2,2,2] ?_;intro C hC;simp only [af_,Nat.reduceEqDiff, ↓reduceIte]
         repeat(go_big_quiet_step (first
          |(intro _;with_reducible rfl)
          |(intro hc;have hR:=fG.o _ (aI.o.trans (But.of_below hc _));have c:=aA.o _ hR;simp only [(bY.o.below hc).cell 0 rfl,(B1.o.below c).cell 1 rfl,(B1.o.below c).cell 4 rfl,c_ c a fO.o,c_ c hL h0,Result.andThen];exact⟨trivial,rfl⟩)
          |(intro hc;with_reducible refine(c4_ a0 n0 c0 X.stops _ _ (dU.o.below (aA.o _ (fG.o _ (aI.o.trans (But.of_below hc _))))) (by omega)).mono ?_;rintro e cY ⟨rfl,rfl⟩;exact⟨rfl,hc⟩)))
         clear hC;intro C' bN;clear bN;intro wq P;obtain⟨W1,W2,W3,va,vb,h1,h2,h3,⟨_,c2,c3⟩,⟨_,_,t3⟩,_,J,M,gv,cv,bA⟩:=ci_ (enc:=numE .i64) Tryz.underlying49 eb_ rfl (by decide) aj_ bw_ (by decide) (f:=0) (T:=51) (ai_ X.stops sx) (bY.o.below P) (aa_ cW.o P) Y (by omega) fH.o (aI.o.trans (But.of_below P _));rw [<-gK] at M;have M:=H_ M;have aY:Hd (Bx W3 bj 51 [vb,.slice cB m2 cE,.slice cC m3 cF]):=c3;have aZ:=H_ t3;have v5:=c2.cell 0 rfl;have v6:=c2.frozen 0;subst h1 h2 bA;have J:(Builtin.append_ #[49,49] 49 #[ux,.slice (some ⟨wq.heap.size,0,none⟩) 1 1]).run Tryz.prog (wq.alloc (.cells #[.int .i64 (ai_ X.stops sx)] 3))= .ok (.slice (some ⟨gv,0,none⟩) (k+1) cv) W2:=J;rename_i k1 k2 k3 k4;clear k1 k2 k3 k4 gK Y gN cW bY aI c2 c3 t3 P;go_wp2_with (at_builtin;refine ap_ (.tmp 133) (.tmp 146) 49 J ?_);go_roundw
         ·exact⟨k+1,_,by omega,by go_num,aY,M,aZ⟩
         ·simp [intOf];omega
        ·obtain rfl:m1=k:=by omega
         have bM:Below wo.heap.size wo wr:=aU.o.trans (aI.o.below aU.o.size (m_ cO.o));have gE:(r.stops.map (ai_ X.stops)).length =m1:=by rw [List.length_map];exact N1.o
         have ownF:=cW.o;rw [List.take_of_length_le (by rw [N1.o];omega)] at ownF;obtain⟨cZ,dB,rfl,_⟩:=Rd.of_own aj_ gE ownF
         have eO:RouT cL.heap.size wr (((cZ,m1,dB),(cB,m2,cE),(cC,m3,cF)):RE3) (numR X r):=by
          have z1:=j.o.size;have z2:=aU.o.size;refine⟨?_,?_,?_⟩
          ·show wr.ownsRow _ _ _ (.slice cZ m1 dB) (r.stops.map (ai_ X.stops)).length _;rw [gE];exact aB_ ownF (by omega)
          ·show wr.ownsRow _ _ _ (.slice cB m2 cE) r.rides.length _;rw [N2.o];exact aB_ (ae_ O2.o bD.o (by decide) aI.o) z1
          ·show wr.ownsRow _ _ _ (.slice cC m3 cF) r.stays.length _;rw [N3.o];exact aB_ (ae_ O3.o bD.o (by decide) aI.o) z1
         obtain⟨W1,W2,W3,va,vb,h1,h2,h3,⟨_,b2,b3⟩,⟨_,_,t3⟩,dL,J,M,gv,cv,bA⟩:=ci_ (enc:=re3E) Tryz.underlying27 eN_ rfl (by decide) c7_ gD_ (by decide) (f:=9) (T:=31) (((cZ,m1,dB),(cB,m2,cE),(cC,m3,cF)):RE3) (y.o.below bM) (aa_ own.o bM) hF.o (by omega) d.o (j.o.trans (But.of_below bM _))
         have hK:Hd (aD_ (RouT cL.heap.size) W3 (L++[(((cZ,m1,dB),(cB,m2,cE),(cC,m3,cF)):RE3)]) ((X.routes.take (i+1)).map (numR X))):=by
          rw [aN.o];exact((hT.o.up (fun _ _ h=>h.up (fun _ _ _ _ _ _ _ _ h=>aa_ h bM))).snoc eO).up (fun _ _ h=>h.up (fun _ _ _ _ _ _ he hb h=>dL _ _ _ _ _ _ (by rcases he with rfl|rfl<;>decide) (by rw [hb];exact d.o) h))
         have M:=H_ M;have aY:Hd (Bx W3 bo 31 [.int .i64 X.hz,.slice A0 n0 x0,.slice A1 nP x1,.slice A2 nD x2,.slice A3 nR x3,.slice A4 nT x4,.slice A5 nH x5,uP,uD,vb,.slice none 0 0,.slice none 0 0]):=b3;have aZ:=H_ t3;have v0:=(y.o.below bM).cell 9 rfl;obtain⟨v1,v2,v3⟩:=c_3 bY.o;have v5:=b2.cell 9 rfl;have v6:=b2.frozen 9;subst h1 h2 bA;have J:(Builtin.append_ #[27,27] 27 #[u,.slice (some ⟨wr.heap.size,0,none⟩) 1 1]).run Tryz.prog (wr.alloc (.cells #[.slice cZ m1 dB,.slice cB m2 cE,.slice cC m3 cF] 51))= .ok (.slice (some ⟨gv,0,none⟩) (i+1) cv) W2:=J;rename_i k1 k2 k3;clear k1 k2 k3 dL b2 b3 t3 eO ownF bM cW bY aI hT own y j O2 O3 bQ;go_wp2_with (at_builtin;refine ap_ (.tmp 150) (.tmp 152) 27 J ?_);go_roundw
         ·exact⟨i+1,_,_,by omega,by go_num,aY,M,hK,aZ⟩
         ·simp [intOf];omega
      ·obtain rfl:nR=i:=by omega
       have hT:Hd (aD_ (RouT cL.heap.size) wr L (X.routes.map (numR X))):=by have:=hT.o;rw [List.take_of_length_le (by rw [LR.o];omega)] at this;exact this
       have Q: ∀ {e:TypeId} {z n:Nat} {v:Value} {G:List Value} {b:Nat},31≠e ->cL.ownsRow b e z v n G ->wr.ownsRow b e z v n G:=fun he h=>ae_ h aC.o he j.o;have aL:=H_ (Q (by decide) aQ.o);have bC:=H_ (Q (by decide) bF.o);have bO:=own;have aF:=H_ (N.o.trans j.o);have aE:=y;have R:Hd (bo<wr.heap.size):=y.o.lt;obtain⟨uR,iJ⟩: ∃ q,q=u:=⟨_,rfl⟩
       subst iJ;obtain⟨eA,iL⟩: ∃ q,q=wr:=⟨_,rfl⟩
       subst iL;clear Q own y j N aC d hi aX;have bP:=hT;clear hT;clear aQ bF;have aQ:=aL;have bF:=bC;have N:=aF;have aC:=aE;have d:=R;clear aF aE R aL bC
       go_wp2
       go_loopw [9] (fun iv wr=> ∃ (i:Nat) (u:Value),i<=nT/\iv= .int .i64 i/\Hd (Bx wr bo 31 [.int .i64 X.hz,.slice A0 n0 x0,.slice A1 nP x1,.slice A2 nD x2,.slice A3 nR x3,.slice A4 nT x4,.slice A5 nH x5,uP,uD,uR,u,.slice none 0 0])/\Hd (wr.ownsRow eA.heap.size 53 4 u i (((X.trips.take i).map (numT X)).flatMap aL_))/\Hd (But eA wr [bo])) (fun iv _=>nT-(intOf iv).toNat)
       ·exact⟨0,.slice none 0 0,Nat.zero_le _,rfl,aC,World.ownsRow_nil _ _ _ _,But.refl _ _⟩
       ·obtain⟨i,u,hi,rfl,y,own,j⟩:=hrel;have D:=aA.o _ (N.o.trans j.o);have y0:=(B1.o.below D).cell 5 rfl;by_cases aX:i<nT
        ·have cS:(i:Int)<(nT:Int):=by omega
         obtain⟨b,o,⟨q0,q1,q2,q3,q4⟩,rfl,a,hx,Z⟩:=iF.o.get aX;have f0:=Z 0 _ rfl;have f1:=Z 1 _ rfl;have f2:=Z 2 _ rfl;have f3:=Z 3 _ rfl;have f4:=Z 4 _ rfl;simp only [Nat.add_zero] at f0;clear Z;have aN:(X.trips.take (i+1)).map (numT X)=(X.trips.take i).map (numT X)++[numT X ⟨q0,q1,q2,q3,q4⟩]:=by rw [an_ hx,List.map_append,List.map_singleton]
         have Y:((X.trips.take i).map (numT X)).length =i:=by rw [List.length_map,List.length_take,LT.o];omega
         clear hx
         go_wp2
         refine wl_ [0,0,0,0,0,0,0,0,0,0,0,0,0,0,0,0,0,0,0,0,0,0,0,0,0,0,0,0,0,0,0,2,2,2,2] ?_;intro C hC;simp only [af_,Nat.reduceEqDiff, ↓reduceIte]
         repeat(go_big_quiet_step (first
          |(intro _;with_reducible rfl)
          |(intro hc;have hR:=N.o.trans (j.o.trans (But.of_below hc _));have c:=aA.o _ hR;simp only [(y.o.below hc).cell 10 rfl,(y.o.below hc).cell 4 rfl,(B1.o.below c).cell 5 rfl,c_ c a f1,c_ c a f2,c_ c a f3,c_ c a f4,Result.andThen];exact⟨trivial,rfl⟩)
          |(intro hc;with_reducible refine(c4_ A3 nR x3 (X.routes.map (·.name)) _ _ (fE.o _ (N.o.trans (j.o.trans (But.of_below hc _)))).2.2.2.1 (by omega)).mono ?_;rintro e cY ⟨rfl,rfl⟩;exact⟨rfl,hc⟩)))
         clear hC;intro C' bN;clear bN;intro wq P;obtain⟨W1,W2,W3,va,vb,h1,h2,h3,⟨_,b2,b3⟩,⟨_,_,t3⟩,_,J,M,gv,cv,bA⟩:=ci_ (enc:=aL_) Tryz.underlying28 fd_ rfl (by decide) bF_ fW_ (by decide) (f:=10) (T:=31) (numT X ⟨q0,q1,q2,q3,q4⟩) (y.o.below P) (aa_ own.o P) Y (by omega) d.o (j.o.trans (But.of_below P _));rw [<-aN] at M;have M:=H_ M;have aY:Hd (Bx W3 bo 31 [.int .i64 X.hz,.slice A0 n0 x0,.slice A1 nP x1,.slice A2 nD x2,.slice A3 nR x3,.slice A4 nT x4,.slice A5 nH x5,uP,uD,uR,vb,.slice none 0 0]):=b3;have aZ:=H_ t3;have v5:=b2.cell 10 rfl;have v6:=b2.frozen 10;subst h1 h2 bA;have J:(Builtin.append_ #[28,28] 28 #[u,.slice (some ⟨wq.heap.size,0,none⟩) 1 1]).run Tryz.prog (wq.alloc (.cells ([.int .i64 (ai_ (X.routes.map (·.name)) q1),.int .i64 q2,.int .i64 q3,.int .i64 q4]).toArray 53))= .ok (.slice (some ⟨gv,0,none⟩) (i+1) cv) W2:=J;rename_i k1 k2 k3 k4
         clear k1 k2 k3 k4 aN Y b2 b3 t3 own y j P D;go_wp2_with (at_builtin;refine ap_ (.tmp 163) (.tmp 193) 28 J ?_);go_roundw
         ·exact⟨i+1,_,by omega,by go_num,aY,M,aZ⟩
         ·simp [intOf];omega
        ·obtain rfl:nT=i:=by omega
         have own:Hd (wr.ownsRow eA.heap.size 53 4 u nT ((X.trips.map (numT X)).flatMap aL_)):=by have:=own.o;rw [List.take_of_length_le (by rw [LT.o];omega)] at this;exact this
         have Q: ∀ {e:TypeId} {z n:Nat} {v:Value} {G:List Value} {b:Nat},31≠e ->eA.ownsRow b e z v n G ->wr.ownsRow b e z v n G:=fun he h=>ae_ h aC.o he j.o;have aL:=H_ (Q (by decide) aQ.o);have bC:=H_ (Q (by decide) bF.o);have bS:=H_ (Q (by decide) bO.o);have bT:=H_ (bP.o.up (fun _ _ h=>h.up (fun _ _ _ _ _ _ he _ h=>Q (by rcases he with rfl|rfl<;>decide) h)));have cX:=own;have aF:=H_ (N.o.trans j.o);have aE:=y;have R:Hd (bo<wr.heap.size):=y.o.lt;obtain⟨uT,iK⟩: ∃ q,q=u:=⟨_,rfl⟩
         subst iK;obtain⟨eB,iM⟩: ∃ q,q=wr:=⟨_,rfl⟩
         subst iM;clear Q own y j N aC d hi aX;clear aQ bF bO;have aQ:=aL;have bF:=bC;have bO:=bS;clear bP;have bP:=bT;clear bT;have N:=aF;have aC:=aE;have d:=R;clear aF aE R aL bC bS
         go_wp2
         go_loopw [10] (fun iv wr=> ∃ (i:Nat) (u:Value),i<=nH/\iv= .int .i64 i/\Hd (Bx wr bo 31 [.int .i64 X.hz,.slice A0 n0 x0,.slice A1 nP x1,.slice A2 nD x2,.slice A3 nR x3,.slice A4 nT x4,.slice A5 nH x5,uP,uD,uR,uT,u])/\Hd (wr.ownsRow eB.heap.size 108 5 u i (((X.hazs.take i).map (numH X)).flatMap hazE))/\Hd (But eB wr [bo])) (fun iv _=>nH-(intOf iv).toNat)
         ·exact⟨0,.slice none 0 0,Nat.zero_le _,rfl,aC,World.ownsRow_nil _ _ _ _,But.refl _ _⟩
         ·obtain⟨i,u,hi,rfl,y,own,j⟩:=hrel;have D:=aA.o _ (N.o.trans j.o);have y0:=(B1.o.below D).cell 6 rfl;by_cases aX:i<nH
          ·have cS:(i:Int)<(nH:Int):=by omega
           obtain⟨b,o,⟨q0,q1,q2,q3,q4⟩,rfl,a,hx,Z⟩:=iC.o.get aX;have f0:=Z 0 _ rfl;have f1:=Z 1 _ rfl;have f2:=Z 2 _ rfl;have f3:=Z 3 _ rfl;have f4:=Z 4 _ rfl;simp only [Nat.add_zero] at f0;clear Z;have aN:(X.hazs.take (i+1)).map (numH X)=(X.hazs.take i).map (numH X)++[numH X ⟨q0,q1,q2,q3,q4⟩]:=by rw [an_ hx,List.map_append,List.map_singleton]
           have Y:((X.hazs.take i).map (numH X)).length =i:=by rw [List.length_map,List.length_take,LH.o];omega
           clear hx;have y1:=(B1.o.below D).cell 1 rfl;have aK:=(B1.o.below D).lt;have zb:=Nat.lt_of_lt_of_le a D.size;have G1:=c_ D a f1;have G2:=c_ D a f2;have G3:=c_ D a f3;have G4:=c_ D a f4;have gI:=H_ (dU.o.below D);obtain⟨pv,dT⟩:=e_ (ai_ X.stops q1);clear D
           go_wp2
           refine a0_ (fun fl x w=>GS wr [(fl 16,x 16,KBox wr.heap.size 108 [.bool false,.int .i64 0,.int .i64 0,.int .i64 0,.int .i64 0])] [] [] (fl 15) (x 15) (x 16) 108 [.bool true,.int .i64 pv,.int .i64 q2,.int .i64 q3,.int .i64 q4] (fl 17) w) (by kernel_rfl) (by kernel_rfl) (by kernel_rfl) (by kernel_rfl) (by kernel_rfl) ?_ ?_
           ·intro x0;refine GS.start ?_ ?_ ?_ rfl rfl
            ·intro e he;simp only [List.mem_cons,List.not_mem_nil,or_false] at he;rcases he with rfl<;>first|exact KNil.mono _ _ _|exact KOwn.mono _ _ _ _ _|exact KBox.mono _ _ _
            ·intro e he;simp only [List.mem_cons,List.not_mem_nil,or_false] at he;rcases he with rfl<;>rfl
            ·intro e he;cases he
           intro base O aM hO;have F:Hd (∀ G,evX base O G (.tmp 1)= .pointer (some ⟨bn,0,none⟩)/\evX base O G (.tmp 10)= .int .i64 (i:Int)/\evX base O G (.tmp 11)=G 16/\evX base O G (.tmp 203)=G 0/\evX base O G (.tmp 204)=G 1/\evX base O G (.tmp 205)=G 2/\evX base O G (.tmp 206)=G 3/\evX base O G (.tmp 207)=G 4/\evX base O G (.tmp 208)=G 5/\evX base O G (.tmp 209)=G 6/\evX base O G (.tmp 210)=G 7/\evX base O G (.tmp 211)=G 8/\evX base O G (.tmp 212)=G 9/\evX base O G (.tmp 213)=G 10/\evX base O G (.tmp 214)=G 11/\evX base O G (.tmp 215)=G 12/\evX base O G (.tmp 216)=G 13/\evX base O G (.tmp 217)=G 14/\evX base O G (.tmp 218)=G 15):=fun G=>by rw [aM,hO];exact⟨rfl,rfl,rfl,rfl,rfl,rfl,rfl,rfl,rfl,rfl,rfl,rfl,rfl,rfl,rfl,rfl,rfl,rfl,rfl⟩
           clear aM hO;apply gd_ (n:=0);rfl
           ·intro _ g w _ m n _ _ r _ K t;have e1:=(r _).trans (F.o g).1;clear r n;go_simp;exact t _ _ rfl m
           apply gd_ (n:=1);rfl
           ·intro _ g w _ m n _ _ r _ K t;have d0:=n.at_ 0 rfl rfl;have jJ:=(r _).trans ((F.o g).2.2.2.1.trans d0);clear r n;have m0:=c_ m.bel aK y1;go_simp;exact t _ _ rfl m
           apply gd_ (n:=2);rfl
           ·intro _ g w _ m n _ _ r _ K t;have e1:=(r _).trans (F.o g).1;clear r n;go_simp;exact t _ _ rfl m
           apply gd_ (n:=3);rfl
           ·intro _ g w _ m n _ _ r _ K t;have d2:=n.at_ 2 rfl rfl;have jL:=(r _).trans ((q4_ (F.o g)).2.1.trans d2);clear r n;have m0:=c_ m.bel aK y0;go_simp;exact t _ _ rfl m
           apply gd_ (n:=4);rfl
           ·intro _ g w _ m n _ _ r _ K t;have gR:=(r _).trans (F.o g).2.1;clear r n;go_simp;exact t _ _ rfl m
           apply gd_ (n:=5);rfl
           ·intro _ g w _ m n _ _ r _ K t;have d3:=n.at_ 3 rfl rfl;have jM:=(r _).trans ((q4_ (F.o g)).2.2.1.trans d3);have d4:=n.at_ 4 rfl rfl;have jN:=(r _).trans ((q4_ (F.o g)).2.2.2.1.trans d4);clear r n;go_simp;exact t _ _ rfl m
           apply gd_ (n:=6);rfl
           ·intro _ g w _ m n _ _ r _ K t;have d5:=n.at_ 5 rfl rfl;have jO:=(r _).trans ((q4_ (q4_ (F.o g))).1.trans d5);clear r n;go_simp;exact t _ _ rfl m
           apply gd_ (n:=7);rfl
           ·intro _ g w _ m n _ _ r _ K t;have d6:=n.at_ 6 rfl rfl;have jP:=(r _).trans ((q4_ (q4_ (F.o g))).2.1.trans d6);clear r n;have m0:=c_ m.bel zb G1;go_simp;exact t _ _ rfl m
           apply gd_ (n:=8);rfl
           ·intro _ g w _ m n _ _ r _ K t;have d1:=n.at_ 1 rfl rfl;have jK:=(r _).trans ((F.o g).2.2.2.2.1.trans d1);have d7:=n.at_ 7 rfl rfl;have jQ:=(r _).trans ((q4_ (q4_ (F.o g))).2.2.1.trans d7);clear r n;go_simp;refine(c4_ a0 n0 c0 X.stops q1 w (gI.o.below m.bel) (by omega)).mono ?_;rintro e cY ⟨rfl,rfl⟩;rw [dT];exact⟨_,rfl,t _ _ rfl m⟩
           apply gd_ (n:=9);rfl
           ·intro _ g w _ m n _ _ r _ K t;have e1:=(r _).trans (F.o g).1;clear r n;go_simp;exact t _ _ rfl m
           apply gd_ (n:=10);rfl
           ·intro _ g w _ m n _ _ r _ K t;have d9:=n.at_ 9 rfl rfl;have jS:=(r _).trans ((q4_ (q4_ (q4_ (F.o g)))).1.trans d9);clear r n;have m0:=c_ m.bel aK y0;go_simp;exact t _ _ rfl m
           apply gd_ (n:=11);rfl
           ·intro _ g w _ m n _ _ r _ K t;have gR:=(r _).trans (F.o g).2.1;clear r n;go_simp;exact t _ _ rfl m
           apply gd_ (n:=12);rfl
           ·intro _ g w _ m n _ _ r _ K t;have eX:=n.at_ 10 rfl rfl;have jT:=(r _).trans ((q4_ (q4_ (q4_ (F.o g)))).2.1.trans eX);have eY:=n.at_ 11 rfl rfl;have jU:=(r _).trans ((q4_ (q4_ (q4_ (F.o g)))).2.2.1.trans eY);clear r n;go_simp;exact t _ _ rfl m
           apply gd_ (n:=13);rfl
           ·intro _ g w _ m n _ _ r _ K t;have eZ:=n.at_ 12 rfl rfl;have jV:=(r _).trans ((q4_ (q4_ (q4_ (F.o g)))).2.2.2.1.trans eZ);clear r n;go_simp;exact t _ _ rfl m
           apply gd_ (n:=14);rfl
           ·intro _ g w _ m n _ _ r _ K t;have fA:=n.at_ 13 rfl rfl;have jW:=(r _).trans ((q4_ (q4_ (q4_ (q4_ (F.o g))))).1.trans fA);clear r n;have m0:=c_ m.bel zb G2;have m1:=c_ m.bel zb G3;have m2:=c_ m.bel zb G4;go_simp;exact t _ _ rfl m
           refine ga_ (n:=15) (fun _=>True) ?_ ?_
           ·intro _ g w k m n p _ r _ K t;have d8:=n.at_ 8 rfl rfl;have jR:=(r _).trans ((q4_ (q4_ (F.o g))).2.2.2.1.trans d8);have fB:=n.at_ 14 rfl rfl;have jX:=(r _).trans ((q4_ (q4_ (q4_ (q4_ (F.o g))))).2.1.trans fB);have ec: ∀ v,k (.const v)=v:=fun v=>(r _).trans rfl;clear r n;have S:=m.built (xb':= .agg (List.toArray [.bool true,.int .i64 pv,.int .i64 q2,.int .i64 q3,.int .i64 q4])) p (by simp []) rfl;go_simp;exact t _ _ trivial S
           refine ga_ (n:=16) (fun _=>True) ?_ ?_
           ·intro _ _ w _ m n p _ r _ K t;clear r n;have S:=m.bel.size;go_simp;exact t _ _ trivial (m.stepO 0 rfl p (ag_ _ _ _) ⟨_,rfl,S,Bx.new w _ _⟩ bk_)
           refine ga_ (n:=17) (fun _=>True) ?_ ?_
           ·intro f g w _ m n p q r _ K t;have fC:=(r _).trans (F.o g).2.2.1;have fX:=(r _).trans (q4_ (q4_ (q4_ (q4_ (F.o g))))).2.2;clear r n;have bE:=m.ini p;obtain⟨gq,aW,dM,P⟩:=bE.get 0 rfl (al_ q 16 rfl);obtain⟨aG,dD⟩:=m.bd (al_ q 15 rfl);have bU: ∀ e∈[f 16],e=true:=by simp [al_ q 16 rfl]
            exact aP_ (.tmp 11) (.tmp 218) 108 rfl (fC.trans aW) (fX.trans dD) P (by kernel_rfl) rfl (by simp [Value.oneCell']) (fun w' hB bR=>t _ _ trivial (m.put p (al_ q 15 rfl) (by simpa using bU) aW dM P.lt hB bR))
           clear F;intro G wh hG hI;clear hI;have dE:=hG.bel;obtain⟨kF,bh,eC,eN,eF,gB,eM,fJ⟩:=hG.fin rfl;clear hG;have iQ:=eC.get 0 rfl rfl;simp only [List.append_eq,List.cons_append,List.nil_append,aA_,List.setIfInBounds_toArray,List.set_cons_zero,List.set_cons_succ,Nat.zero_add,Nat.reduceAdd];have bW:=H_ dE;have iA:=H_ eF;have fD:=H_ eM;obtain⟨wb,iO⟩: ∃ q,q=wh:=⟨_,rfl⟩
           subst iO;have eK:=zb;have gO:=G1;rw [eN];clear eC eN gB fJ y1 aK zb G1 G2 G3 G4 gI iQ dE eF eM;have z0:=fD.o.cell 1 rfl;by_cases gF:pv<0
           ·have G1:=c_ bW.o eK gO;have eJ:=Nat.lt_of_lt_of_le eK bW.o.size
            go_wp2
            refine wl_ [0,0,0,0,0,0,0,0,0,0,0,2,2,2] ?_;intro C hC;simp only [af_,Nat.reduceEqDiff, ↓reduceIte]
            repeat(go_big_quiet_step (first
             |(intro _;with_reducible rfl)
             |(intro hc;have hR:=N.o.trans (j.o.trans (But.of_below (b_ bW hc) _));have c:=aA.o _ hR;simp only [(y.o.below (b_ bW hc)).cell 2 rfl,(B1.o.below c).cell 6 rfl,c_ hc eJ G1,Result.andThen];exact⟨trivial,rfl⟩)
             |(intro hc;with_reducible refine(c4_ A1 nP x1 (X.paths.map (·.name)) _ _ (fE.o _ (N.o.trans (j.o.trans (But.of_below (b_ bW hc) _)))).2.1 (by omega)).mono ?_;rintro e cY ⟨rfl,rfl⟩;exact⟨rfl,hc⟩)))
            clear hC;intro C' bN;clear bN;intro wq P;obtain⟨pw,gG⟩:=e_ (ai_ (X.paths.map (·.name)) q1);rw [gG];have cM:=fD.o.below P;have z1:=cM.cell 0 rfl;have z2:=cM.frozen 0;have cN:=cM.set 0 (.bool false);have z3:=cN.cell 1 rfl;have z4:=cN.frozen 1;have bK:Bx ((wq.setCell ⟨bh,0,none⟩ (.bool false)).setCell ⟨bh,1,none⟩ (.int .i64 pw)) bh 108 [.bool false,.int .i64 pw,.int .i64 q2,.int .i64 q3,.int .i64 q4]:=cN.set 1 (.int .i64 pw);have gD:=But.of_below P [bh];have cQ:But wb ((wq.setCell ⟨bh,0,none⟩ (.bool false)).setCell ⟨bh,1,none⟩ (.int .i64 pw)) [bh]:=(gD.trans (But.of_set _ _ _ (by simp))).trans (But.of_set _ _ _ (by simp));have aB:=bW.o.trans (cQ.below bW.o.size (m_ iA.o));have cQ:=H_ cQ;clear cM cN gD G1 eJ;go_upto_region 29 with fail;obtain⟨wc,dP⟩:=e_ ((wq.setCell ⟨bh,0,none⟩ (.bool false)).setCell ⟨bh,1,none⟩ (.int .i64 pw));rw [dP] at bK aB;simp only [dP]
            clear z1 z2 z3 z4 dP cQ P;have dH:hazE (numH X ⟨q0,q1,q2,q3,q4⟩)=[.bool false,.int .i64 pw,.int .i64 q2,.int .i64 q3,.int .i64 q4]:=by unfold numH;rw [show ai_ X.stops (⟨q0,q1,q2,q3,q4⟩:bs_).on =pv from dT,if_pos gF, <-gG];rfl
            obtain⟨W1,W2,W3,va,vb,h1,h2,h3,⟨_,b2,b3⟩,⟨_,_,t3⟩,_,J,M,gv,cv,bA⟩:=ci_ (enc:=hazE) Tryz.underlying29 eC_ rfl (by decide) bU_ e8_ (by decide) (f:=11) (T:=31) (numH X ⟨q0,q1,q2,q3,q4⟩) (y.o.below aB) (aa_ own.o aB) Y (by omega) d.o (j.o.trans (But.of_below aB _));rw [<-aN] at M;have M:=H_ M;have aY:Hd (Bx W3 bo 31 [.int .i64 X.hz,.slice A0 n0 x0,.slice A1 nP x1,.slice A2 nD x2,.slice A3 nR x3,.slice A4 nT x4,.slice A5 nH x5,uP,uD,uR,uT,vb]):=b3;have aZ:=H_ t3;have v0:=(y.o.below aB).cell 11 rfl;obtain⟨v1,v2,v3,v4,v7⟩:=c_5 bK;have v5:=b2.cell 11 rfl;have v6:=b2.frozen 11;subst h1 h2 bA;rw [dH] at J;have J:(Builtin.append_ #[29,29] 29 #[u,.slice (some ⟨wc.heap.size,0,none⟩) 1 1]).run Tryz.prog (wc.alloc (.cells ([.bool false,.int .i64 pw,.int .i64 q2,.int .i64 q3,.int .i64 q4]).toArray 108))= .ok (.slice (some ⟨gv,0,none⟩) (i+1) cv) W2:=J;rename_i k1 k2 k3 k4
            clear k1 k2 k3 k4 aN Y b2 b3 t3 own y j aB bK dH;go_wp2_with (at_builtin;refine ap_ (.tmp 235) (.tmp 237) 29 J ?_);go_roundw
            ·exact⟨i+1,_,by omega,by go_num,aY,M,aZ⟩
            ·simp [intOf];omega
           ·have bK:=fD.o;have aB:=bW.o;obtain⟨wc,dP⟩: ∃ q,q=wb:=⟨_,rfl⟩
            subst dP;have dH:hazE (numH X ⟨q0,q1,q2,q3,q4⟩)=[.bool true,.int .i64 pv,.int .i64 q2,.int .i64 q3,.int .i64 q4]:=by unfold numH;rw [show ai_ X.stops (⟨q0,q1,q2,q3,q4⟩:bs_).on =pv from dT,if_neg gF, <-dT];rfl
            go_upto_region 29 with fail;obtain⟨W1,W2,W3,va,vb,h1,h2,h3,⟨_,b2,b3⟩,⟨_,_,t3⟩,_,J,M,gv,cv,bA⟩:=ci_ (enc:=hazE) Tryz.underlying29 eC_ rfl (by decide) bU_ e8_ (by decide) (f:=11) (T:=31) (numH X ⟨q0,q1,q2,q3,q4⟩) (y.o.below aB) (aa_ own.o aB) Y (by omega) d.o (j.o.trans (But.of_below aB _));rw [<-aN] at M;have M:=H_ M;have aY:Hd (Bx W3 bo 31 [.int .i64 X.hz,.slice A0 n0 x0,.slice A1 nP x1,.slice A2 nD x2,.slice A3 nR x3,.slice A4 nT x4,.slice A5 nH x5,uP,uD,uR,uT,vb]):=b3;have aZ:=H_ t3;have v0:=(y.o.below aB).cell 11 rfl;obtain⟨v1,v2,v3,v4,v7⟩:=c_5 bK;have v5:=b2.cell 11 rfl;have v6:=b2.frozen 11;subst h1 h2 bA;rw [dH] at J;have J:(Builtin.append_ #[29,29] 29 #[u,.slice (some ⟨wc.heap.size,0,none⟩) 1 1]).run Tryz.prog (wc.alloc (.cells ([.bool true,.int .i64 pv,.int .i64 q2,.int .i64 q3,.int .i64 q4]).toArray 108))= .ok (.slice (some ⟨gv,0,none⟩) (i+1) cv) W2:=J
            rename_i k1 k2 k3 k4;clear k1 k2 k3 k4 aN Y b2 b3 t3 own y j aB bK dH;go_wp2_with (at_builtin;refine ap_ (.tmp 235) (.tmp 237) 29 J ?_);go_roundw
            ·exact⟨i+1,_,by omega,by go_num,aY,M,aZ⟩
            ·simp [intOf];omega
          ·obtain rfl:nH=i:=by omega
           have own:Hd (wr.ownsRow eB.heap.size 108 5 u nH ((X.hazs.map (numH X)).flatMap hazE)):=by have:=own.o;rw [List.take_of_length_le (by rw [LH.o];omega)] at this;exact this
           have Q: ∀ {e:TypeId} {z n:Nat} {v:Value} {G:List Value} {b:Nat},31≠e ->eB.ownsRow b e z v n G ->wr.ownsRow b e z v n G:=fun he h=>ae_ h aC.o he j.o;have aL:=H_ (Q (by decide) aQ.o);have bC:=H_ (Q (by decide) bF.o);have bS:=H_ (Q (by decide) bO.o);have eE:=H_ (Q (by decide) cX.o);have bT:=H_ (bP.o.up (fun _ _ h=>h.up (fun _ _ _ _ _ _ he _ h=>Q (by rcases he with rfl|rfl<;>decide) h)));have fF:=own;have aF:=H_ (N.o.trans j.o);have aE:=y;have R:Hd (bo<wr.heap.size):=y.o.lt;obtain⟨uH,iH⟩: ∃ q,q=u:=⟨_,rfl⟩
           subst iH;obtain⟨iW,iN⟩: ∃ q,q=wr:=⟨_,rfl⟩
           subst iN;clear Q own y j N aC d hi aX;clear aQ bF bO cX;have aQ:=aL;have bF:=bC;have bO:=bS;have cX:=eE;clear bP;have bP:=bT;clear bT;have N:=aF;have aC:=aE;have d:=R;clear aF aE R aL bC bS eE;have e0:(X.paths.map (numP X)).length =nP:=by rw [List.length_map];exact LP.o
           have e1:(X.doors.map (numD X)).length =nD:=by rw [List.length_map];exact LD.o
           have e2:(X.routes.map (numR X)).length =nR:=by rw [List.length_map];exact LR.o
           have e3:(X.trips.map (numT X)).length =nT:=by rw [List.length_map];exact LT.o
           have e4:(X.hazs.map (numH X)).length =nH:=by rw [List.length_map];exact LH.o
           have eL:L.length=nR:=by rw [bP.o.len];exact e2
           obtain⟨AP,xP,eP,_⟩:=Rd.of_own b9_ e0 aQ.o;obtain⟨AD,xD,eD,_⟩:=Rd.of_own bL_ e1 bF.o;obtain⟨AR,xR,eR,_⟩:=Rd.of_own c7_ eL bO.o;obtain⟨AT,xT,eT,_⟩:=Rd.of_own bF_ e3 cX.o;obtain⟨AH,xH,eH,_⟩:=Rd.of_own bU_ e4 fF.o;subst eP eD eR eT eH;have aO:=hH.o _ N.o;obtain⟨dS,aS⟩:=aO.row [.int .i64 X.hz,.slice A0 n0 x0,.slice A1 nP x1,.slice A2 nD x2,.slice A3 nR x3,.slice A4 nT x4,.slice A5 nH x5,.slice AP nP xP,.slice AD nD xD,.slice AR nR xR,.slice AT nT xT,.slice AH nH xH];obtain⟨wF,fL⟩:=e_ (iW.setRow bq (List.toArray [.int .i64 X.hz,.slice A0 n0 x0,.slice A1 nP x1,.slice A2 nD x2,.slice A3 nR x3,.slice A4 nT x4,.slice A5 nH x5,.slice AP nP xP,.slice AD nD xD,.slice AR nR xR,.slice AT nT xT,.slice AH nH xH]));rw [fL] at dS aS
           have S:RW wF (numS X) ⟨A0,A1,A2,A3,A4,A5,AP,AD,AR,AT,AH,n0,nP,nD,nR,nT,nH,nP,nD,nR,nT,nH,x0,x1,x2,x3,x4,x5,xP,xD,xR,xT,xH⟩:=by
            obtain⟨r0,r1,r2,r3,r4,r5⟩:=fE.o _ N.o;have bB: ∀ v∈([.int .i64 0,.slice none 0 0,.slice none 0 0,.slice none 0 0,.slice none 0 0,.slice none 0 0,.slice none 0 0,.slice none 0 0,.slice none 0 0,.slice none 0 0,.slice none 0 0,.slice none 0 0]:List Value), ∀ s,v≠ .string s:=by intro v hv s;simp at hv;rcases hv with rfl|rfl<;>simp
            exact⟨r0.keep_box aO bB aS,r1.keep_box aO bB aS,r2.keep_box aO bB aS,r3.keep_box aO bB aS,r4.keep_box aO bB aS,r5.keep_box aO bB aS,
             bl_ b9_ e0 (ae_ aQ.o aO (by decide) aS),bl_ bL_ e1 (ae_ bF.o aO (by decide) aS),
             (bP.o.up (fun _ _ h=>h.up (fun _ _ _ _ _ _ he _ h=>ae_ h aO (by rcases he with rfl|rfl<;>decide) aS))).routes (bl_ c7_ eL (ae_ bO.o aO (by decide) aS)),
             bl_ bF_ e3 (ae_ cX.o aO (by decide) aS),bl_ bU_ e4 (ae_ fF.o aO (by decide) aS)⟩
           have cG:Below we.heap.size we wF:=(gL.o _ (aA.o _ N.o)).trans (aS.below (gL.o _ (aA.o _ N.o)).size (m_ gA.o));have S:=H_ S;have cG:=H_ cG;have aO:=H_ aO;have dS:=H_ dS;rename_i gY gZ hA hD;clear gY gZ hA hD aS e0 e1 e2 e3 e4 eL aQ bF bO cX fF bP;go_upto_region 30 with fail;refine wp_region_lit ?_;refine cO_ (.tmp 3) 31 rfl rfl rfl aC.o (by kernel_rfl) (by kernel_rfl) ?_;refine ac_ (.tmp 2) (.tmp 240) 31 rfl rfl rfl rfl aO.o (by kernel_rfl) rfl rfl fL ?_;refine wpList_nil ?_;clear fL aC;rename_i hE;refine hE _ _ (wp_ret ?_);refine ar_ (s:=2) (t:=31) rfl rfl dS.o (by kernel_rfl) (by kernel_rfl) rfl ?_;exact⟨⟨A0,A1,A2,A3,A4,A5,AP,AD,AR,AT,AH,n0,nP,nD,nR,nT,nH,nP,nD,nR,nT,nH,x0,x1,x2,x3,x4,x5,xP,xD,xR,xT,xH⟩,by simp only [wVal,numS],S.o,cG.o⟩
