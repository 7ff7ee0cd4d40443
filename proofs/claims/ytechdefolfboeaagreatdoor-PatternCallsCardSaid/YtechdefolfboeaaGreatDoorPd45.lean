/- Merged. -/
import Derived.Test.YtechdefolfboeaaGreatDoorPd22
import Derived.Test.YtechdefolfboeaaGreatDoorPd42
import Derived.Test.YtechdefolfboeaaGreatDoorPd43
import Derived.Test.YtechdefolfboeaaGreatDoorPd44
set_option linter.unusedVariables false
set_option linter.unusedSimpArgs false
set_option maxHeartbeats 4000000
namespace Go.Proofs.YtechdefolfboeaaGreatDoor
open Go.RowKit B
theorem jl_ {nm:Str ->Bool} {X:ay_} (h:bb_ nm X=true): ∀ r∈(numS X).routes,r.rides.length+1=r.stops.length:=fun r j=>by
 unfold bb_ at h;simp only [Bool.and_eq_true] at h;obtain⟨q,g,rfl⟩:=List.mem_map.1 (show r∈X.routes.map (numR X) from j);have f:=List.all_eq_true.1 h.2.2.2 q g;unfold cX_ at f;simp only [Bool.and_eq_true,decide_eq_true_eq] at f;simp only [numR,List.length_map];omega
theorem ki_ {X:ay_} (h:FewS X):Few (numS X):=
 ⟨h.s0,by simp only [numS,List.length_map];exact h.sP,by simp only [numS,List.length_map];exact h.sD,by simp only [numS,List.length_map];exact h.sR,by simp only [numS,List.length_map];exact h.sT,by simp only [numS,List.length_map];exact h.sH,
   by simp only [numS,List.length_map];exact h.sP,by simp only [numS,List.length_map];exact h.sD,by simp only [numS,List.length_map];exact h.sR,by simp only [numS,List.length_map];exact h.sT,by simp only [numS,List.length_map];exact h.sH,fun r g=>by
    obtain⟨q,f,rfl⟩:=List.mem_map.1 (show r∈X.routes.map (numR X) from g);simpa [numR] using h.sr q f⟩
theorem lO_ (M:ab_):allN M=[M.stops,M.nPaths,M.nDoors,M.nRoutes,M.nTrips,M.nHazs].flatten :=by simp [allN]
set_option maxRecDepth 100000 in
theorem mt_ (X:ay_) (V:SV) (we:World) (hr:RS we X V) (hf:FewS X):Calls Tryz.prog 111 #[sVal X V] we (ox_ X we):=by
 obtain⟨a0,aP,aD,aR,aT,aH,n0,nP,nD,nR,nT,nH,c0,cP,cD,cR,cT,cH⟩:=V;have bP:=H_ hf;simp only [sVal];obtain⟨w1,cK,cG,B1⟩:=box0 we 136 [.int .i64 X.hz,.slice a0 n0 c0,.slice aP nP cP,.slice aD nD cD,.slice aR nR cR,.slice aT nT cT,.slice aH nH cH];obtain⟨w2,cY,bI,B2⟩:=box0 w1 31 [.int .i64 0,.slice none 0 0,.slice none 0 0,.slice none 0 0,.slice none 0 0,.slice none 0 0,.slice none 0 0,.slice none 0 0,.slice none 0 0,.slice none 0 0,.slice none 0 0,.slice none 0 0];obtain⟨w3,dC,bJ,B3⟩:=box0 w2 81 [.int .i64 0,.int .i64 0,.int .i64 0];obtain⟨bn,bN⟩:=e_ we.heap.size;obtain⟨d,y⟩:=e_ (bn+1);obtain⟨i,z⟩:=e_ (bn+1+1);have bV:w1.heap.size=d:=by rw [<-y, <-bN, <-cK];simp
 have bW:w2.heap.size=i:=by rw [<-z, <-bN, <-cY, <-cK];simp
 rw [bN] at B1;rw [bV] at B2;rw [bW] at B3;have cJ:Hd (Below we.heap.size we w3):=(u_ cG bI).trans (bJ.mono (u_ cG bI).size);have aJ:Hd (we.heap.size<=d):=by show _<=_;omega
 have aK:Hd (we.heap.size<=i):=by show _<=_;omega
 have S:Hd (i≠d):=by show _≠_;omega
 have bY:=(B1.below bI).below bJ;have BQ:=H_ (B2.below bJ);have BW:=H_ B3;have hR:=H_ (hr.below cJ.o);obtain⟨p0,p1,p2,p3,p4,p5,p6⟩:=c_7 bY;have B1:=H_ bY;rename_i g1;clear g1 bY B2 B3 cG bI bJ hr hf;go_enter Tryz.func111,Tryz.ntmps111;go_wp2_with fail;refine(kB_ X ⟨a0,aP,aD,aR,aT,aH,n0,nP,nD,nR,nT,nH,c0,cP,cD,cR,cT,cH⟩ w3 hR.o bP.o).mono ?_;rintro e w4 ⟨c,rfl,hc,aQ⟩;have cS:=H_ hc;clear hc cK cY dC bN y z bV bW p0 p1 p2 p3 p4 p5 p6;have bB:Hd (Below we.heap.size we w4):=b_ cJ aQ;by_cases he:c=0
 ·subst he;have bQ:Hd (bb_ aN_ X=true):=cS.o.1 rfl;obtain⟨p0,p1,p2,p3,p4,p5,p6⟩:=c_7 (B1.o.below aQ);have R:=H_ aQ;clear aQ;go_wp2_with fail;refine(iq_ X ⟨a0,aP,aD,aR,aT,aH,n0,nP,nD,nR,nT,nH,c0,cP,cD,cR,cT,cH⟩ w4 (hR.o.below R.o) bP.o).mono ?_;rintro e w5 ⟨⟨A0,A1,A2,A3,A4,A5,AP,AD,AR,AT,AH,N0,N1,N2,N3,N4,N5,NP,ND,NR,NT,NH,K0,K1,K2,K3,K4,K5,KP,KD,KR,KT,KH⟩,rfl,cO,Q⟩;clear p0 p1 p2 p3 p4 p5 p6;simp only [wVal,numS];obtain⟨w6,dD,bK,B6⟩:=box0 w5 31 [.int .i64 X.hz,.slice A0 N0 K0,.slice A1 N1 K1,.slice A2 N2 K2,.slice A3 N3 K3,.slice A4 N4 K4,.slice A5 N5 K5,.slice AP NP KP,.slice AD ND KD,.slice AR NR KR,.slice AT NT KT,.slice AH NH KH];obtain⟨b6,bT⟩:=e_ w5.heap.size;rw [bT] at B6;have bR:=cO.below bK;have bX:Hd (Below we.heap.size we w6):=(b_ bB Q).trans (bK.mono (b_ bB Q).size);have bE:Hd (Below w3.heap.size w3 w6):=((b_ R Q).trans (bK.mono (b_ R Q).size))
  have f:=H_ bR;obtain⟨q0,q1,q2,q3,q4,q5,q6,q7,q8,q9,dF,dG⟩:=c_12 B6;have dA:b6<w6.heap.size:=B6.lt;have B6:=H_ B6;clear cO bR Q bK
  have aO:Hd (N0<=100000/\N1<=100000/\N2<=100000/\N3<=100000/\N4<=100000/\N5<=100000):=by
   have h:=ki_ bP.o;have:=f.o.r0.len;have:=f.o.r1.len;have:=f.o.r2.len;have:=f.o.r3.len;have:=f.o.r4.len;have:=f.o.r5.len;have:=h.s0;have:=h.s1;have:=h.s2;have:=h.s3;have:=h.s4;have:=h.s5;simp only at*;show _/\_;omega
  go_wp2_with fail;refine(m8_ [(numS X).stops,(numS X).nPaths,(numS X).nDoors,(numS X).nRoutes,(numS X).nTrips,(numS X).nHazs] _ _ _ _ _ _ rfl A0 A1 A2 A3 A4 A5 N0 N1 N2 N3 N4 N5 K0 K1 K2 K3 K4 K5 w6 f.o.r0 f.o.r1 f.o.r2 f.o.r3 f.o.r4 f.o.r5 aO.o.1 aO.o.2.1 aO.o.2.2.1 aO.o.2.2.2.1 aO.o.2.2.2.2.1 aO.o.2.2.2.2.2).mono ?_;rintro e w7 ⟨c,k,a,rfl,hc,bL⟩;rw [<-lO_] at hc;have cV:=H_ hc;clear dD bT q0 q1 q2 q3 q4 q5 q6 q7 q8 q9 dF dG;obtain⟨w8,dE,cQ,B8⟩:=box0 w7 81 [.int .i64 c,.int .i64 k,.int .i64 a];obtain⟨b8,bU⟩:=e_ w7.heap.size;rw [bU] at B8;have aC:=u_ bL cQ;have aL:Hd (Below we.heap.size we w8):=b_ bX aC;have aM:Hd (Below w3.heap.size w3 w8):=b_ bE aC;have aN:=B6.o.below aC;have bS:=H_ (f.o.below aC);have r0:=B8.cell 0 rfl;have cI:Hd (b6≠b8):=by have:=aN.lt;have:=bL.size;show _≠_;omega
  have aE:Hd (w3.heap.size<=b8):=by have:=bE.o.size;have:=bL.size;show _<=_;omega
  obtain⟨d0,d1,d2,d3,d4,d5,d6,d7,d8,d9,cM,cN⟩:=c_12 aN;have B8:=H_ B8;have aN:=H_ aN;clear hc bL cQ aC f B6 bX bE;by_cases aY:c=0
  ·subst aY;have cX:Hd (bG_ (allN (numS X))=true):=cV.o.1 rfl;go_wp2_with fail;refine(kJ_ (numS X) ⟨A0,A1,A2,A3,A4,A5,AP,AD,AR,AT,AH,N0,N1,N2,N3,N4,N5,NP,ND,NR,NT,NH,K0,K1,K2,K3,K4,K5,KP,KD,KR,KT,KH⟩ w8 bS.o (ki_ bP.o) (jl_ bQ.o)).mono ?_;rintro e w9 ⟨c,k,a,rfl,hc,aX⟩;have cU:=H_ hc;have cB:=B8.o.below aX;have cA:=aN.o.below aX;have bC:=b_ aL aX;have bF:=b_ aM aX;obtain⟨cF,bM⟩:=cB.row [.int .i64 c,.int .i64 k,.int .i64 a];obtain⟨w10,bD⟩:=e_ (w9.setRow b8 (List.toArray [.int .i64 c,.int .i64 k,.int .i64 a]));rw [bD] at cF bM;have Y:=bF.trans (bM.below bF.size (m_ aE.o));have j:Hd (Below we.heap.size we w10):=b_ cJ Y;have cL:Bx w10 b6 31 [.int .i64 X.hz,.slice A0 N0 K0,.slice A1 N1 K1,.slice A2 N2 K2,.slice A3 N3 K3,.slice A4 N4 K4,.slice A5 N5 K5,.slice AP NP KP,.slice AD ND KD,.slice AR NR KR,.slice AT NT KT,.slice AH NH KH]:=cA.keep (bM.keep b6 cA.lt (by simp;exact cI.o))
   have r0:=cF.cell 0 rfl;have aA:=BQ.o.below Y;have aB:=BW.o.below Y;have dB:=H_ bC;have aS:=H_ cF;have bZ:=H_ cL;clear d0 d1 d2 d3 d4 d5 d6 d7 d8 d9 cM cN hc aX dE bU bC bF bM Y aL aM cA bS aN B8 r0;have r0:=aS.o.cell 0 rfl;by_cases bO:c=0
   ·subst bO;have cZ:Hd (okS X=true):=by show _=_;unfold okS;rw [bQ.o,cX.o,cU.o.1 rfl];rfl
    go_upto_region 8 with(with_reducible refine ac_ (.tmp 6) (.tmp 23) 81 (by with_reducible rfl) ?u1 ?u2 ?u3 cB ?u4 ?u5 ?u6 bD ?_)
    all_goals try rfl
    all_goals try kernel_rfl
    obtain⟨d0,d1,d2,d3,d4,d5,d6,d7,d8,d9,cM,cN⟩:=c_12 bZ.o;obtain⟨T,y⟩:=aA.row [.int .i64 X.hz,.slice A0 N0 K0,.slice A1 N1 K1,.slice A2 N2 K2,.slice A3 N3 K3,.slice A4 N4 K4,.slice A5 N5 K5,.slice AP NP KP,.slice AD ND KD,.slice AR NR KR,.slice AT NT KT,.slice AH NH KH];obtain⟨wf,bG⟩:=e_ (w10.setRow d (List.toArray [.int .i64 X.hz,.slice A0 N0 K0,.slice A1 N1 K1,.slice A2 N2 K2,.slice A3 N3 K3,.slice A4 N4 K4,.slice A5 N5 K5,.slice AP NP KP,.slice AD ND KD,.slice AR NR KR,.slice AT NT KT,.slice AH NH KH]));rw [bG] at T y;have aW:Bx wf i 81 [.int .i64 0,.int .i64 0,.int .i64 0]:=aB.keep (y.keep i aB.lt (by simp;exact S.o));obtain⟨U,z⟩:=aW.row [.int .i64 0,.int .i64 0,.int .i64 0];obtain⟨wg,bH⟩:=e_ (wf.setRow i (List.toArray [.int .i64 0,.int .i64 0,.int .i64 0]));rw [bH] at U z
    have aI:Bx wg d 31 [.int .i64 X.hz,.slice A0 N0 K0,.slice A1 N1 K1,.slice A2 N2 K2,.slice A3 N3 K3,.slice A4 N4 K4,.slice A5 N5 K5,.slice AP NP KP,.slice AD ND KD,.slice AR NR KR,.slice AT NT KT,.slice AH NH KH]:=T.keep (z.keep d T.lt (by simp;exact fun h=>S.o h.symm));have aG:=y.below j.o.size (m_ aJ.o);have aV:=z.below (j.o.trans aG).size (m_ aK.o);have P:Hd (Below we.heap.size we wg):=(j.o.trans aG).trans aV;have aI:=H_ aI;have U:=H_ U;have aU:=aA;clear T y z aG aV;rename_i gQ gW;clear gQ gW;go_wp2_with (first|(with_reducible refine ac_ (.tmp 2) (.tmp 29) 31 (by with_reducible rfl) ?y1 ?y2 ?y3 aU ?y4 ?y5 ?y6 bG ?_)|(with_reducible refine ac_ (.tmp 3) (.tmp 30) 81 (by with_reducible rfl) ?y7 ?y8 ?y9 aW ?ya ?yb ?yc bH ?_))
    all_goals try rfl
    all_goals try kernel_rfl
    refine cl_ (s:=2) (s':=3) (t:=31) (t':=81) rfl rfl rfl aI.o U.o (by kernel_rfl) (by kernel_rfl) (by kernel_rfl) (by kernel_rfl) rfl ?_;exact⟨_,_,_,_,rfl,by simp,by simp [Value.oneCell'],⟨fun _=>cZ.o,fun _=>rfl⟩,P.o⟩
   ·have cW:(c !=0)=true:=by simp [bO]
    go_upto_region 8 with(with_reducible refine ac_ (.tmp 6) (.tmp 23) 81 (by with_reducible rfl) ?v1 ?v2 ?v3 cB ?v4 ?v5 ?v6 bD ?_)
    all_goals try rfl
    all_goals try kernel_rfl
    have bA:Hd (okS X=false):=by show _=_;unfold okS;rw [bQ.o,cX.o];simp only [Bool.true_and];exact Bool.eq_false_iff.2 fun h=>bO (cU.o.2 h)
    obtain⟨r0,r1,r2⟩:=c_3 aS.o;have F:=aS.o.lt;have aZ:d≠i:=fun h=>S.o h.symm;have G:b8≠d:=by have:=BQ.o.lt;have:=aE.o;omega
    have J:b8≠i:=by have:=BW.o.lt;have:=aE.o;omega
    go_wp2
    refine a0_ (fun fl x w=>GX2 w10 d 31 [.int .i64 0,.slice none 0 0,.slice none 0 0,.slice none 0 0,.slice none 0 0,.slice none 0 0,.slice none 0 0,.slice none 0 0,.slice none 0 0,.slice none 0 0,.slice none 0 0,.slice none 0 0] [.int .i64 0,.slice none 0 0,.slice none 0 0,.slice none 0 0,.slice none 0 0,.slice none 0 0,.slice none 0 0,.slice none 0 0,.slice none 0 0,.slice none 0 0,.slice none 0 0,.slice none 0 0] i 81 [.int .i64 0,.int .i64 0,.int .i64 0] [.int .i64 c,.int .i64 k,.int .i64 a] (fl 2) (fl 3) w) (by kernel_rfl) (by kernel_rfl) (by kernel_rfl) (by kernel_rfl) (by kernel_rfl) ?_ ?_
    ·intro x0;exact GX2.start aA aB rfl rfl
    intro base O L hO;have q:Hd (∀ Z,evX base O Z (.tmp 2)= .pointer (some ⟨d,0,none⟩)/\evX base O Z (.tmp 3)= .pointer (some ⟨i,0,none⟩)/\evX base O Z (.tmp 6)= .pointer (some ⟨b8,0,none⟩)/\evX base O Z (.tmp 27)=Z 0/\evX base O Z (.tmp 28)=Z 1):=fun Z=>by rw [L,hO];exact⟨rfl,rfl,rfl,rfl,rfl⟩
    clear L hO;apply gd_ (n:=0);rfl
    ·intro _ _ w _ m n _ _ r _ K t;clear r n;go_simp;exact t _ _ rfl m
    apply gd_ (n:=1);rfl
    ·intro _ g w _ m n _ _ r _ K t;have e6:=(r _).trans (q.o g).2.2.1;clear r n;have m0:=m.cell (b:=b8) F G J (r0);have m1:=m.cell (b:=b8) F G J (r1);have m2:=m.cell (b:=b8) F G J (r2);go_simp;exact t _ _ rfl m
    refine ga_ (n:=2) (fun _=>True) ?_ ?_
    ·intro _ g w _ m n p _ r _ K t;have e2:=(r _).trans (q.o g).1;have d0:=n.at_ 0 rfl rfl;have cC:=(r _).trans ((q.o g).2.2.2.1.trans d0);clear r n;exact aP_ (.tmp 2) (.tmp 27) 31 rfl e2 cC (m.box0 p) (by kernel_rfl) rfl (by simp [Value.oneCell']) (fun w' hB D=>t _ _ trivial (m.put0 aZ hB D))
    refine ga_ (n:=3) (fun _=>True) ?_ ?_
    ·intro _ g w _ m n p _ r _ K t;have e3:=(r _).trans (q.o g).2.1;have d1:=n.at_ 1 rfl rfl;have cE:=(r _).trans ((q.o g).2.2.2.2.trans d1);clear r n;exact aP_ (.tmp 3) (.tmp 28) 81 rfl e3 cE (m.box1 p) (by kernel_rfl) rfl (by simp [Value.oneCell']) (fun w' hB D=>t _ _ trivial (m.put1 aZ hB D))
    clear q;intro Z wb hG hI;clear hI;have M:=hG.but;have aF:=hG.bx;have N:=hG.bx';clear hG;simp only [if_true] at aF N;simp only [List.append_eq,List.cons_append,List.nil_append,aA_,List.setIfInBounds_toArray,List.set_cons_zero,List.set_cons_succ,Nat.zero_add,Nat.reduceAdd];have P:Hd (Below we.heap.size we wb):=j.o.trans (M.below j.o.size (fun x hx=>by simp only [List.mem_cons,List.not_mem_nil,or_false] at hx;rcases hx with rfl|rfl;exact aJ.o;exact aK.o));clear M;go_wp2_with fail;refine cl_ (s:=2) (s':=3) (t:=31) (t':=81) rfl rfl rfl aF N (by kernel_rfl) (by kernel_rfl) (by kernel_rfl) (by kernel_rfl) rfl ?_;exact⟨_,_,_,_,rfl,by simp,by simp [Value.oneCell'],⟨fun h=>absurd h bO,fun h=>by rw [bA.o] at h;cases h⟩,P.o⟩
  ·have cW:(c !=0)=true:=by simp [aY]
   have dH:(c==0)=false:=by simp [aY]
   have aA:=BQ.o.below aM.o;have aB:=BW.o.below aM.o;go_wp2_with fail;have bA:Hd (okS X=false):=by show _=_;unfold okS;rw [bQ.o];simp only [Bool.true_and,Bool.and_eq_false_iff];exact .inl (Bool.eq_false_iff.2 fun h=>aY (cV.o.2 h))
   obtain⟨r0,r1,r2⟩:=c_3 B8.o;have F:=B8.o.lt;have aZ:d≠i:=fun h=>S.o h.symm;have G:b8≠d:=by have:=BQ.o.lt;have:=aE.o;omega
   have J:b8≠i:=by have:=BW.o.lt;have:=aE.o;omega
   go_wp2
   refine a0_ (fun fl x w=>GX2 w8 d 31 [.int .i64 0,.slice none 0 0,.slice none 0 0,.slice none 0 0,.slice none 0 0,.slice none 0 0,.slice none 0 0,.slice none 0 0,.slice none 0 0,.slice none 0 0,.slice none 0 0,.slice none 0 0] [.int .i64 0,.slice none 0 0,.slice none 0 0,.slice none 0 0,.slice none 0 0,.slice none 0 0,.slice none 0 0,.slice none 0 0,.slice none 0 0,.slice none 0 0,.slice none 0 0,.slice none 0 0] i 81 [.int .i64 0,.int .i64 0,.int .i64 0] [.int .i64 c,.int .i64 k,.int .i64 a] (fl 2) (fl 3) w) (by kernel_rfl) (by kernel_rfl) (by kernel_rfl) (by kernel_rfl) (by kernel_rfl) ?_ ?_
   ·intro x0;exact GX2.start aA aB rfl rfl
   intro base O L hO;have q:Hd (∀ Z,evX base O Z (.tmp 2)= .pointer (some ⟨d,0,none⟩)/\evX base O Z (.tmp 3)= .pointer (some ⟨i,0,none⟩)/\evX base O Z (.tmp 6)= .pointer (some ⟨b8,0,none⟩)/\evX base O Z (.tmp 27)=Z 0/\evX base O Z (.tmp 28)=Z 1):=fun Z=>by rw [L,hO];exact⟨rfl,rfl,rfl,rfl,rfl⟩
   clear L hO;apply gd_ (n:=0);rfl
   ·intro _ _ w _ m n _ _ r _ K t;clear r n;go_simp;exact t _ _ rfl m
   apply gd_ (n:=1);rfl
   ·intro _ g w _ m n _ _ r _ K t;have e6:=(r _).trans (q.o g).2.2.1;clear r n;have m0:=m.cell (b:=b8) F G J (r0);have m1:=m.cell (b:=b8) F G J (r1);have m2:=m.cell (b:=b8) F G J (r2);go_simp;exact t _ _ rfl m
   refine ga_ (n:=2) (fun _=>True) ?_ ?_
   ·intro _ g w _ m n p _ r _ K t;have e2:=(r _).trans (q.o g).1;have d0:=n.at_ 0 rfl rfl;have cC:=(r _).trans ((q.o g).2.2.2.1.trans d0);clear r n;exact aP_ (.tmp 2) (.tmp 27) 31 rfl e2 cC (m.box0 p) (by kernel_rfl) rfl (by simp [Value.oneCell']) (fun w' hB D=>t _ _ trivial (m.put0 aZ hB D))
   refine ga_ (n:=3) (fun _=>True) ?_ ?_
   ·intro _ g w _ m n p _ r _ K t;have e3:=(r _).trans (q.o g).2.1;have d1:=n.at_ 1 rfl rfl;have cE:=(r _).trans ((q.o g).2.2.2.2.trans d1);clear r n;exact aP_ (.tmp 3) (.tmp 28) 81 rfl e3 cE (m.box1 p) (by kernel_rfl) rfl (by simp [Value.oneCell']) (fun w' hB D=>t _ _ trivial (m.put1 aZ hB D))
   clear q;intro Z wb hG hI;clear hI;have M:=hG.but;have aF:=hG.bx;have N:=hG.bx';clear hG;simp only [if_true] at aF N;simp only [List.append_eq,List.cons_append,List.nil_append,aA_,List.setIfInBounds_toArray,List.set_cons_zero,List.set_cons_succ,Nat.zero_add,Nat.reduceAdd];have P:Hd (Below we.heap.size we wb):=aL.o.trans (M.below aL.o.size (fun x hx=>by simp only [List.mem_cons,List.not_mem_nil,or_false] at hx;rcases hx with rfl|rfl;exact aJ.o;exact aK.o));clear M;go_wp2_with fail;refine cl_ (s:=2) (s':=3) (t:=31) (t':=81) rfl rfl rfl aF N (by kernel_rfl) (by kernel_rfl) (by kernel_rfl) (by kernel_rfl) rfl ?_;exact⟨_,_,_,_,rfl,by simp,by simp [Value.oneCell'],⟨fun h=>absurd h aY,fun h=>by rw [bA.o] at h;cases h⟩,P.o⟩
 ·have cW:(c !=0)=true:=by simp [he]
  have bA:Hd (okS X=false):=by
   show _=_
   cases h:bb_ aN_ X with
   |true=>exact absurd (cS.o.2 h) he
   |false=>unfold okS;rw [h];rfl
  have R:=H_ aQ;clear aQ;go_wp2_with fail;refine(ca_ c 0 0 w4).mono ?_;rintro e w5 ⟨rfl,Q⟩;have j:Hd (Below we.heap.size we w5):=b_ bB Q;have aA:=(BQ.o.below R.o).below Q;have aB:=(BW.o.below R.o).below Q;clear Q;obtain⟨T,y⟩:=aA.row [.int .i64 0,.slice none 0 0,.slice none 0 0,.slice none 0 0,.slice none 0 0,.slice none 0 0,.slice none 0 0,.slice none 0 0,.slice none 0 0,.slice none 0 0,.slice none 0 0,.slice none 0 0];obtain⟨wf,bG⟩:=e_ (w5.setRow d (List.toArray [.int .i64 0,.slice none 0 0,.slice none 0 0,.slice none 0 0,.slice none 0 0,.slice none 0 0,.slice none 0 0,.slice none 0 0,.slice none 0 0,.slice none 0 0,.slice none 0 0,.slice none 0 0]));rw [bG] at T y;have aW:Bx wf i 81 [.int .i64 0,.int .i64 0,.int .i64 0]:=aB.keep (y.keep i aB.lt (by simp;exact S.o));obtain⟨U,z⟩:=aW.row [.int .i64 c,.int .i64 0,.int .i64 0]
  obtain⟨wg,bH⟩:=e_ (wf.setRow i (List.toArray [.int .i64 c,.int .i64 0,.int .i64 0]));rw [bH] at U z;have aI:Bx wg d 31 [.int .i64 0,.slice none 0 0,.slice none 0 0,.slice none 0 0,.slice none 0 0,.slice none 0 0,.slice none 0 0,.slice none 0 0,.slice none 0 0,.slice none 0 0,.slice none 0 0,.slice none 0 0]:=T.keep (z.keep d T.lt (by simp;exact fun h=>S.o h.symm));have aG:=y.below j.o.size (m_ aJ.o);have aV:=z.below (j.o.trans aG).size (m_ aK.o);have P:Hd (Below we.heap.size we wg):=(j.o.trans aG).trans aV;have aI:=H_ aI;have U:=H_ U;have aU:=aA;clear T y z aG aV;rename_i gQ gW;clear gQ gW;go_wp2_with (first|(with_reducible refine ac_ (.tmp 2) (.tmp 11) 31 (by with_reducible rfl) ?n1 ?n2 ?n3 aU ?n4 ?n5 ?n6 bG ?_)|(with_reducible refine ac_ (.tmp 3) (.tmp 13) 81 (by with_reducible rfl) ?n7 ?n8 ?n9 aW ?na ?nb ?nc bH ?_))
  all_goals try rfl
  all_goals try kernel_rfl
  refine cl_ (s:=2) (s':=3) (t:=31) (t':=81) rfl rfl rfl aI.o U.o (by kernel_rfl) (by kernel_rfl) (by kernel_rfl) (by kernel_rfl) rfl ?_;exact⟨_,_,_,_,rfl,by simp,by simp [Value.oneCell'],⟨fun h=>absurd h he,fun h=>by rw [bA.o] at h;cases h⟩,P.o⟩
set_option maxRecDepth 100000 in
theorem kC_ (M:ab_) (V:WV) (we:World) (hr:RW we M V) (hf:Few M):Calls Tryz.prog 77 #[wVal M V] we (RetW we (cu_ aN_ M)):=by
 have aI:=H_ hr;have aY:=H_ (fun w1 S=>na_ M V w1 S hf);have aS:=H_ (fun w1 S hw=>or_ M V w1 S hf hw);have aN:=H_ (fun(V':SV) w1 S=>mt_ (b4_ M) V' w1 S (iJ_ hf));clear hf;obtain⟨a0,a1,a2,a3,a4,a5,aP,aD,aR,aT,aH,n0,n1,n2,n3,n4,n5,nP,nD,nR,nT,nH,c0,c1,c2,c3,c4,c5,cP,cD,cR,cT,cH⟩:=V;simp only [wVal] at*;obtain⟨w1,aV,aJ,B1⟩:=box0 we 31 [.int .i64 M.hz,.slice a0 n0 c0,.slice a1 n1 c1,.slice a2 n2 c2,.slice a3 n3 c3,.slice a4 n4 c4,.slice a5 n5 c5,.slice aP nP cP,.slice aD nD cD,.slice aR nR cR,.slice aT nT cT,.slice aH nH cH];obtain⟨w2,bD,i,B2⟩:=box0 w1 81 [.int .i64 0,.int .i64 0,.int .i64 0];obtain⟨bn,aB⟩:=e_ we.heap.size;obtain⟨Q,aQ⟩:=e_ (bn+1);have U:w1.heap.size=Q:=by rw [<-aQ, <-aB, <-aV];simp
 rw [aB] at B1;rw [U] at B2;have aU:Hd (Below we.heap.size we w2):=u_ aJ i;have T:Hd (we.heap.size<=Q):=by show _<=_;omega
 have b:=B1.below i;have BW:=H_ B2;have S:=H_ (aI.o.below aU.o);obtain⟨p0,p1,p2,p3,p4,p5,p6,p7,p8,p9,bF,bG⟩:=c_12 b;have B1:=H_ b;rename_i g1;clear g1 b B2 aJ i hr aI;go_enter Tryz.func77,Tryz.ntmps77;go_wp2_with fail;refine(aY.o w2 S.o).mono ?_;rintro e w3 ⟨rfl,L⟩;have G:Hd (Below we.heap.size we w3):=b_ aU L;have q:=H_ L;obtain⟨r0,r1,r2,r3,r4,r5,r6,r7,r8,r9,bH,bI⟩:=c_12 (B1.o.below L);clear aV bD aB aQ U L aY p0 p1 p2 p3 p4 p5 p6 p7 p8 p9 bF bG
 cases P:bS_ M with
 |false=>
  have bC:Hd (cu_ aN_ M=false):=by show _=_;rw [e7_,P];rfl
  clear P;go_wp2_with fail;refine(ca_ 2 0 0 w3).mono ?_;rintro e w4 ⟨rfl,j⟩;have aF:=(BW.o.below q.o).below j;obtain⟨g,p⟩:=aF.row [.int .i64 2,.int .i64 0,.int .i64 0];obtain⟨wF,J⟩:=e_ (w4.setRow Q (List.toArray [.int .i64 2,.int .i64 0,.int .i64 0]));rw [J] at g p;have d:=b_ G j;have F:Hd (Below we.heap.size we wF):=d.trans (p.below d.size (m_ T.o));have g:=H_ g;rename_i bA;clear bA p d j;go_wp2_with (with_reducible refine ac_ (.tmp 2) (.tmp 8) 81 (by with_reducible rfl) ?x1 ?x2 ?x3 aF ?x4 ?x5 ?x6 J ?_)
  all_goals try rfl
  all_goals try kernel_rfl
  refine ar_ (s:=2) (t:=81) rfl rfl g.o (by kernel_rfl) (by kernel_rfl) rfl ?_;exact⟨_,_,_,rfl,⟨fun h=>absurd h (by decide),fun h=>by rw [bC.o] at h;cases h⟩,F.o⟩
 |true=>
  have aZ:=H_ P;clear P;go_wp2_with fail;refine(aS.o w3 (S.o.below q.o) aZ.o).mono ?_;rintro e w4 ⟨V',rfl,aG,j⟩;clear r0 r1 r2 r3 r4 r5 r6 r7 r8 r9 bH bI;go_wp2_with fail;refine(aN.o V' w4 aG).mono ?_;rintro e w5 ⟨vs,c,k,a,rfl,hl,X,hc,r⟩;obtain⟨v0,v1,v2,v3,v4,v5,v6,v7,v8,v9,va,vb,rfl⟩:=oD_ hl;have bB:Hd (c=0↔cu_ aN_ M=true):=by show _↔_;rw [e7_,aZ.o,Bool.true_and];exact hc
  have Y:Hd (Below we.heap.size we w5):=(b_ G j).trans (r.mono (b_ G j).size);have Z:=(b_ q j).trans (r.mono (b_ q j).size);have f:=BW.o.below Z;clear hc j r aG aS aN;obtain⟨w6,bE,y,B6⟩:=box0 w5 31 [.int .i64 0,.slice none 0 0,.slice none 0 0,.slice none 0 0,.slice none 0 0,.slice none 0 0,.slice none 0 0,.slice none 0 0,.slice none 0 0,.slice none 0 0,.slice none 0 0,.slice none 0 0];obtain⟨w7,bJ,n,B7⟩:=box0 w6 81 [.int .i64 0,.int .i64 0,.int .i64 0];obtain⟨b6,D⟩:=e_ w5.heap.size;obtain⟨b7,aK⟩:=e_ (b6+1);have aA:w6.heap.size=b7:=by rw [<-aK, <-D, <-bE];simp
  rw [D] at B6;rw [aA] at B7;have aC:=B6.below n;obtain⟨B8,z⟩:=aC.row [v0,v1,v2,v3,v4,v5,v6,v7,v8,v9,va,vb];obtain⟨w8,aW⟩:=e_ (w7.setRow b6 (List.toArray [v0,v1,v2,v3,v4,v5,v6,v7,v8,v9,va,vb]));rw [aW] at B8 z;have aE:=B7.keep (z.keep b7 B7.lt (by simp;omega));obtain⟨B9,N⟩:=aE.row [.int .i64 c,.int .i64 k,.int .i64 a];obtain⟨w9,aX⟩:=e_ (w8.setRow b7 (List.toArray [.int .i64 c,.int .i64 k,.int .i64 a]));rw [aX] at B9 N;have aM:=f.lt;have R:Bx w9 Q 81 [.int .i64 0,.int .i64 0,.int .i64 0]:=((f.below y).below n).keep ((N.keep Q (((f.below y).below n).keep (z.keep Q ((f.below y).below n).lt (by simp;omega))).lt (by simp;omega)).trans (z.keep Q ((f.below y).below n).lt (by simp;omega)));obtain⟨g,p⟩:=R.row [.int .i64 c,.int .i64 k,.int .i64 a];obtain⟨wF,J⟩:=e_ (w9.setRow Q (List.toArray [.int .i64 c,.int .i64 k,.int .i64 a]));rw [J] at g p;have h7:=b_ Y (u_ y n)
  have aL:we.heap.size<=b6:=by rw [<-D];exact Y.o.size
  have h8:=h7.trans (z.below h7.size (m_ aL));have h9:=h8.trans (N.below h8.size (fun x hx=>by simp only [List.mem_singleton] at hx;subst hx;omega));have F:Hd (Below we.heap.size we wF):=h9.trans (p.below h9.size (m_ T.o));obtain⟨z0,z1,z2⟩:=c_3 B9;have g:=H_ g;have aO:=H_ X;clear hl X p aM aL h7 h8 h9 z N B9 y n B6 f Z B8 B7;rename_i gF;clear gF;go_wp2_with (first|(with_reducible refine ac_ (.tmp 3) (.tmp 13) 31 (by with_reducible rfl) ?k1 ?k2 ?k3 aC ?k4 ?k5 ?k6 aW ?_)|(with_reducible refine ac_ (.tmp 4) (.tmp 14) 81 (by with_reducible rfl) ?y1 ?y2 ?y3 aE ?y4 ?y5 ?y6 aX ?_)|(with_reducible refine ac_ (.tmp 2) (.tmp 15) 81 (by with_reducible rfl) ?z1 ?z2 ?z3 R ?z4 ?z5 ?z6 J ?_))
  all_goals try(simp only [List.all_eq_true];exact aO.o)
  all_goals try rfl
  all_goals try kernel_rfl
  refine ar_ (s:=2) (t:=81) rfl rfl g.o (by kernel_rfl) (by kernel_rfl) rfl ?_;exact⟨_,_,_,rfl,bB.o,F.o⟩
