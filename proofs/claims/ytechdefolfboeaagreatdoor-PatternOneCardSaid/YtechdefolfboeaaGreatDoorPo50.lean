/- Merged. -/
import Derived.Test.YtechdefolfboeaaGreatDoorPo5
import Derived.Test.YtechdefolfboeaaGreatDoorPo44
set_option linter.unusedVariables false
set_option linter.unusedSimpArgs false
set_option maxHeartbeats 4000000
namespace Go.Proofs.YtechdefolfboeaaGreatDoor
open Go.RowKit B
set_option maxRecDepth 100000 in
theorem told_any (W:WorldP) (V:WV) (we:World) (hr:RW we W V) (hf:Few W) (hw:wholeB W=true):
 Calls Tryz.prog 112 #[wVal W V] we (RetTold W we):=by
 obtain⟨a0,a1,a2,a3,a4,a5,aP,aD,aR,aT,aH,n0,n1,n2,n3,n4,n5,nP,nD,nR,nT,nH,c0,c1,c2,c3,c4,c5,cP,cD,cR,cT,cH⟩:=V
 obtain⟨l0,l1,l2,l3,l4,l5,lP,lD,lR,lT,lH⟩:W.stops.length=n0∧W.nPaths.length=n1∧W.nDoors.length=n2∧W.nRoutes.length=n3∧W.nTrips.length=n4∧W.nHazs.length=n5∧W.paths.length=nP∧W.doors.length=nD∧W.routes.length=nR∧W.trips.length=nT∧W.hazs.length=nH:=
  ⟨hr.r0.len,hr.r1.len,hr.r2.len,hr.r3.len,hr.r4.len,hr.r5.len,hr.rP.len,hr.rD.len,hr.rR.len,hr.rT.len,hr.rH.len⟩
 have hm0:n0≤100000:=by have:=hf.s0;omega
 have mP:nP≤100000:=by have:=hf.sP;omega
 have mD:nD≤100000:=by have:=hf.sD;omega
 have mR:nR≤100000:=by have:=hf.sR;omega
 have mT:nT≤100000:=by have:=hf.sT;omega
 have mH:nH≤100000:=by have:=hf.sH;omega
 unfold wholeB lensB at hw;simp only [Bool.and_eq_true,decide_eq_true_eq] at hw;obtain⟨⟨⟨⟨⟨⟨q1,q2,q3,q4,q5⟩,wP⟩,wD⟩,wR⟩,wT⟩,wH⟩:=hw;have hwP:=H_ wP;have hwD:=H_ wD;have hwR:=H_ wR;have hwT:=H_ wT;have hwH:=H_ wH;have K1:Hid (n1=nP):=by show _=_;omega
 have K2:Hid (n2=nD):=by show _=_;omega
 have K3:Hid (n3=nR):=by show _=_;omega
 have K4:Hid (n4=nT):=by show _=_;omega
 have K5:Hid (n5=nH):=by show _=_;omega
 have hallP:Hid (∀ i,i<nP→(toldP W i).isSome):=fun i hi=>by unfold toldP;rw [List.getElem?_eq_getElem (by omega)];rfl
 have hallD:Hid (∀ i,i<nD→(toldD W i).isSome):=fun i hi=>by unfold toldD;rw [List.getElem?_eq_getElem (by omega)];rfl
 have hallR:Hid (∀ i,i<nR→(toldR W i).isSome):=fun i hi=>by unfold toldR;rw [List.getElem?_eq_getElem (by omega)];rfl
 have hallT:Hid (∀ i,i<nT→(toldT W i).isSome):=fun i hi=>by unfold toldT;rw [List.getElem?_eq_getElem (by omega)];rfl
 have hallH:Hid (∀ i,i<nH→(toldH W i).isSome):=fun i hi=>by unfold toldH;rw [List.getElem?_eq_getElem (by omega)];rfl
 have hfr:=H_ hf.sr;have L0:=H_ l0;have L1:=H_ l1;have L3:=H_ l3;have LP:=H_ lP;have LD:=H_ lD;have LR:=H_ lR;have LT:=H_ lT;have LH:=H_ lH;obtain⟨hz,hhz⟩: ∃ q,W.hz=q:=⟨_,rfl⟩
 have Hhz:=H_ hhz;simp only [wVal];rw [hhz];have hb1:=below_alloc we #[.int .i64 hz,.slice a0 n0 c0,.slice a1 n1 c1,.slice a2 n2 c2,.slice a3 n3 c3,.slice a4 n4 c4,.slice a5 n5 c5,.slice aP nP cP,.slice aD nD cD,.slice aR nR cR,.slice aT nT cT,.slice aH nH cH] 31;have B1:=Bx.new we 31 [.int .i64 hz,.slice a0 n0 c0,.slice a1 n1 c1,.slice a2 n2 c2,.slice a3 n3 c3,.slice a4 n4 c4,.slice a5 n5 c5,.slice aP nP cP,.slice aD nD cD,.slice aR nR cR,.slice aT nT cT,.slice aH nH cH];obtain⟨w1,hw1⟩: ∃ q,we.alloc (.cells #[.int .i64 hz,.slice a0 n0 c0,.slice a1 n1 c1,.slice a2 n2 c2,.slice a3 n3 c3,.slice a4 n4 c4,.slice a5 n5 c5,.slice aP nP cP,.slice aD nD cD,.slice aR nR cR,.slice aT nT cT,.slice aH nH cH] 31)=q:=⟨_,rfl⟩
 rw [hw1] at hb1;change Bx (we.alloc (.cells #[.int .i64 hz,.slice a0 n0 c0,.slice a1 n1 c1,.slice a2 n2 c2,.slice a3 n3 c3,.slice a4 n4 c4,.slice a5 n5 c5,.slice aP nP cP,.slice aD nD cD,.slice aR nR cR,.slice aT nT cT,.slice aH nH cH] 31)) _ _ _ at B1;rw [hw1] at B1;have hbq:=below_alloc w1 #[.int .i64 0,.slice none 0 0,.slice none 0 0,.slice none 0 0,.slice none 0 0,.slice none 0 0,.slice none 0 0] 136;have Bq:=Bx.new w1 136 [.int .i64 0,.slice none 0 0,.slice none 0 0,.slice none 0 0,.slice none 0 0,.slice none 0 0,.slice none 0 0];obtain⟨wq,hwq⟩: ∃ q,w1.alloc (.cells #[.int .i64 0,.slice none 0 0,.slice none 0 0,.slice none 0 0,.slice none 0 0,.slice none 0 0,.slice none 0 0] 136)=q:=⟨_,rfl⟩
 rw [hwq] at hbq;change Bx (w1.alloc (.cells #[.int .i64 0,.slice none 0 0,.slice none 0 0,.slice none 0 0,.slice none 0 0,.slice none 0 0,.slice none 0 0] 136)) _ _ _ at Bq;rw [hwq] at Bq;have hb2:=below_alloc wq #[.slice a0 n0 c0,.slice a1 n1 c1,.slice a2 n2 c2,.slice a3 n3 c3,.slice a4 n4 c4,.slice a5 n5 c5] 24;have B2:=Bx.new wq 24 [.slice a0 n0 c0,.slice a1 n1 c1,.slice a2 n2 c2,.slice a3 n3 c3,.slice a4 n4 c4,.slice a5 n5 c5];obtain⟨w2,hw2⟩: ∃ q,wq.alloc (.cells #[.slice a0 n0 c0,.slice a1 n1 c1,.slice a2 n2 c2,.slice a3 n3 c3,.slice a4 n4 c4,.slice a5 n5 c5] 24)=q:=⟨_,rfl⟩
 rw [hw2] at hb2;change Bx (wq.alloc (.cells #[.slice a0 n0 c0,.slice a1 n1 c1,.slice a2 n2 c2,.slice a3 n3 c3,.slice a4 n4 c4,.slice a5 n5 c5] 24)) _ _ _ at B2;rw [hw2] at B2;have B1':=(B1.below hbq).below hb2;have Bq':=Bq.below hb2;obtain⟨bn,hbn⟩: ∃ q,we.heap.size=q:=⟨_,rfl⟩
 obtain⟨bq,hq1⟩: ∃ q,bn+1=q:=⟨_,rfl⟩
 obtain⟨bb,hq2⟩: ∃ q,bq+1=q:=⟨_,rfl⟩
 have hbqE:w1.heap.size=bq:=by rw [←hq1,←hbn,←hw1];simp
 have hbb:wq.heap.size=bb:=by rw [←hq2,←hbqE,←hwq];simp
 have hbeq:Hid (we.heap.size≤bq):=by have:=hb1.size;show _≤_;omega
 rw [hbn] at B1' B1;rw [hbqE] at Bq' Bq;rw [hbb] at B2;have hup:Hid (∀ U,Below w2.heap.size w2 U→Below we.heap.size we U):=fun U hU=>u_ hb1 (hbq.trans ((hb2.trans (hU.mono hb2.size)).mono hbq.size));have hR:=((hr.below hb1).below hbq).below hb2;have hr0:Hid (Rd w2 1 strE a0 n0 W.stops):=hR.r0;have hr1:Hid (Rd w2 1 strE a1 n1 W.nPaths):=hR.r1;have hr2:Hid (Rd w2 1 strE a2 n2 W.nDoors):=hR.r2;have hr3:Hid (Rd w2 1 strE a3 n3 W.nRoutes):=hR.r3;have hr4:Hid (Rd w2 1 strE a4 n4 W.nTrips):=hR.r4;have hr5:Hid (Rd w2 1 strE a5 n5 W.nHazs):=hR.r5;have hrP:Hid (Rd w2 3 tripE aP nP W.paths):=hR.rP;have hrD:Hid (Rd w2 6 doorE aD nD W.doors):=hR.rD;have hrR:Hid (RRoutes w2 aR nR W.routes):=hR.rR;have hrT:Hid (Rd w2 4 tripP aT nT W.trips):=hR.rT;have hrH:Hid (Rd w2 5 hazE aH nH W.hazs):=hR.rH;obtain⟨p0,p1,p2,p3,p4,p5,p6⟩:=c_7 B1;have p1':=(B1.below hbq).cell 1 rfl;have p2':=(B1.below hbq).cell 2 rfl
 have p3':=(B1.below hbq).cell 3 rfl;have p4':=(B1.below hbq).cell 4 rfl;have p5':=(B1.below hbq).cell 5 rfl;have p6':=(B1.below hbq).cell 6 rfl;clear l0 l1 l2 l3 l4 l5 lP lD lR lT lH hr hf hhz hb1 hb2 hbq B1 Bq q1 q2 q3 q4 q5 wP wD wR wT wH hR;go_enter Tryz.func112,Tryz.ntmps112;go_upto_region 2 with fail
 try simp only [hq1,hq2]
 clear hq1 hq2;clear hw1 hwq hw2 hbn hbqE hbb p0 p1 p2 p3 p4 p5 p6 p1' p2' p3' p4' p5' p6';have y1:=B1'.cell 0 rfl;have y2:=B2.cell 0 rfl;have zbn:=B1'.lt;have zbb:=B2.lt;go_upto_region 2 with fail;refine wp_region_ghost (fun fl x w=>GS w2 [(fl 2,x 2,KNil w2.heap.size 9 1),(fl 5,x 5,KOwn w2.heap.size 9 1 n0 (W.stops.flatMap strE)),(fl 7,x 7,KBox w2.heap.size 136 [.int .i64 0,.slice none 0 0,.slice none 0 0,.slice none 0 0,.slice none 0 0,.slice none 0 0,.slice none 0 0])] [(fl 5,fl 2)] [fl 5] (fl 6) (x 6) (x 7) 136 [.int .i64 hz,(x 5),.slice none 0 0,.slice none 0 0,.slice none 0 0,.slice none 0 0,.slice none 0 0] (fl 8) w) (by kernel_rfl) (by kernel_rfl) (by kernel_rfl) (by kernel_rfl) (by kernel_rfl) ?_ ?_
 ·intro x0;refine GS.start ?_ ?_ ?_ rfl rfl
  ·intro e he;simp only [List.mem_cons,List.not_mem_nil,or_false] at he;rcases he with rfl|rfl|rfl<;>first|exact KNil.mono _ _ _|exact KOwn.mono _ _ _ _ _|exact KBox.mono _ _ _
  ·intro e he;simp only [List.mem_cons,List.not_mem_nil,or_false] at he;rcases he with rfl|rfl|rfl<;>rfl
  ·intro e he;simp only [List.mem_cons,List.not_mem_nil,or_false] at he;rcases he with rfl<;>rfl
 intro base O hbase hO;have kx1:Hid (∀ xs,evX base O xs (.tmp 1)= .pointer (some ⟨bn,0,none⟩)∧evX base O xs (.tmp 3)= .pointer (some ⟨bb,0,none⟩)∧evX base O xs (.tmp 4)=xs 7∧evX base O xs (.tmp 15)=xs 0∧evX base O xs (.tmp 16)=xs 1∧evX base O xs (.tmp 17)=xs 2∧evX base O xs (.tmp 18)=xs 3∧evX base O xs (.tmp 19)=xs 4∧evX base O xs (.tmp 20)=xs 5∧evX base O xs (.tmp 21)=xs 6):=fun xs=>by rw [hbase,hO];exact⟨rfl,rfl,rfl,rfl,rfl,rfl,rfl,rfl,rfl,rfl⟩
 clear hbase hO;apply gd_ (n:=0);rfl
 ·intro fl xs w ev hG hD hl hdone hev ef K hK;have e1:=(hev (.tmp 1)).trans ((kx1.out xs).1);clear hev hD;go_simp;exact hK _ _ rfl hG
 apply gd_ (n:=1);rfl
 ·intro fl xs w ev hG hD hl hdone hev ef K hK;have e15:=(hev (.tmp 15)).trans ((kx1.out xs).2.2.2.1);have d0:=hD.at_ 0 rfl rfl;replace e15:=e15.trans d0;clear hev hD;have m0:=c_ hG.bel zbn y1;go_simp;exact hK _ _ rfl hG
 refine ga_ (n:=2) (fun _=>True) ?_ ?_
 ·intro fl xs w ev hG hD hl hdone hev ef K hK;clear hev hD;have hfin:=KNil.new w w2.heap.size 9 1 hG.bel.size;go_simp;exact hK _ _ trivial (hG.stepO 0 rfl hl (below_alloc _ _ _) hfin (im_cons (fun _=>rfl) im_nil))
 apply gd_ (n:=3);rfl
 ·intro fl xs w ev hG hD hl hdone hev ef K hK;have e3:=(hev (.tmp 3)).trans ((kx1.out xs).2.1);clear hev hD;go_simp;exact hK _ _ rfl hG
 apply gd_ (n:=4);rfl
 ·intro fl xs w ev hG hD hl hdone hev ef K hK;have e18:=(hev (.tmp 18)).trans ((kx1.out xs).2.2.2.2.2.2.1);have d3:=hD.at_ 3 rfl rfl;replace e18:=e18.trans d3;clear hev hD;have m0:=c_ hG.bel zbb y2;go_simp;exact hK _ _ rfl hG
 refine ga_ (n:=5) (fun _=>True) ?_ ?_
 ·intro fl xs w ev hG hD hl hdone hev ef K hK;have e17:=(hev (.tmp 17)).trans ((kx1.out xs).2.2.2.2.2.1);have e19:=(hev (.tmp 19)).trans ((kx1.out xs).2.2.2.2.2.2.2.1);have d4:=hD.at_ 4 rfl rfl;replace e19:=e19.trans d4;clear hev hD;obtain⟨hf0,hGL⟩:=hG.ahead 1 rfl hl;obtain⟨gq,hgq,hown⟩:=hGL.get 0 rfl (done_of hdone 2 rfl);rw [hgq] at hown;have hsrc:=hr0.out.below hG.bel;have hbs0:=hG.bel.size;obtain⟨vq,wq,hrun,own1,hb1⟩:=own_copy Tryz.underlying22 info_tStr rfl (by decide) strE_len c0 hown hsrc (by omega) (by decide) hbs0;exact outcome_append (.tmp 17) (.tmp 19) 22 rfl (e17.trans hgq) e19 hrun (hK _ _ trivial (hG.step 1 rfl hl (by simp) hb1 own1 (im_cons (fun _=>done_of hdone 2 rfl) im_nil)))
 refine ga_ (n:=6) (fun _=>True) ?_ ?_
 ·intro fl xs w ev hG hD hl hdone hev ef K hK;have e16:=(hev (.tmp 16)).trans ((kx1.out xs).2.2.2.2.1);have d1:=hD.at_ 1 rfl rfl;replace e16:=e16.trans d1;have e20:=(hev (.tmp 20)).trans ((kx1.out xs).2.2.2.2.2.2.2.2.1);clear hev hD;obtain⟨wz20,hkz20⟩:=hG.wit 1 rfl (done_of hdone 5 rfl);obtain⟨aq20,cq20,hxq20,_⟩:=Rd.of_own strE_len L0.out hkz20;rw [hxq20] at e20;clear hkz20;have hfin:=hG.built (xb':= .agg (List.toArray [.int .i64 hz,(xs 5),.slice none 0 0,.slice none 0 0,.slice none 0 0,.slice none 0 0,.slice none 0 0])) hl (by simp [done_of hdone 5 rfl]) rfl;go_simp;rw [←hxq20];exact hK _ _ trivial hfin
 refine ga_ (n:=7) (fun _=>True) ?_ ?_
 ·intro fl xs w ev hG hD hl hdone hev ef K hK;clear hev hD;have hfin:=hG.bel.size;go_simp;exact hK _ _ trivial (hG.stepO 2 rfl hl (below_alloc _ _ _) ⟨_,rfl,hfin,Bx.new w _ _⟩ (im_cons (hG.im (fl 5,fl 2) (by simp)) im_nil))
 refine ga_ (n:=8) (fun _=>True) ?_ ?_
 ·intro fl xs w ev hG hD hl hdone hev ef K hK;have e4:=(hev (.tmp 4)).trans ((kx1.out xs).2.2.1);have e21:=(hev (.tmp 21)).trans ((kx1.out xs).2.2.2.2.2.2.2.2.2);clear hev hD;have hGL:=hG.ini hl;obtain⟨gq,hgq,hq0,hbq⟩:=hGL.get 2 rfl (done_of hdone 7 rfl);obtain⟨hdeps,hbd⟩:=hG.bd (done_of hdone 6 rfl);obtain⟨aq20,cq20,hxq20,_⟩:=Rd.of_own strE_len L0.out (hGL.get 1 rfl (hdeps _ (by simp)));have hall: ∀ e∈[fl 2,fl 5,fl 7],e=true:=by simp [done_of hdone 7 rfl,hdeps (fl 5) (by simp),(show fl 2=true from hG.im (fl 5,fl 2) (by simp) (hdeps _ (by simp)))]
  exact outcome_store (.tmp 4) (.tmp 21) 136 rfl (e4.trans hgq) (e21.trans hbd) hbq (by kernel_rfl) rfl (by simp [hxq20,Value.oneCell']) (fun w' hB hBut=>hK _ _ trivial (hG.put hl (done_of hdone 6 rfl) (by simpa using hall) hgq hq0 hbq.lt hB hBut))
 clear kx1;intro xs wi0 hG hI;clear hI;have hbel:=hG.bel;obtain⟨wa,bo,hGL,hgo,hbn,hbl,hbx,hbut⟩:=hG.fin rfl;clear hG;have q0:=hGL.get 0 rfl rfl;have q1:=hGL.get 1 rfl rfl;have q2:=hGL.get 2 rfl rfl;simp only [List.append_eq,List.cons_append,List.nil_append,setAll,List.setIfInBounds_toArray,List.set_cons_zero,List.set_cons_succ,Nat.zero_add,Nat.reduceAdd];obtain⟨uS,huS⟩: ∃ q,q=xs 5:=⟨_,rfl⟩
 rw [←huS] at hbx q1;obtain⟨bz,hbz,_,hBz⟩:=q2;rw [hgo] at hbz;cases hbz;have hOS:Hid (wi0.ownsRow w2.heap.size 9 1 uS n0 (W.stops.flatMap strE)):=own_box q1 hBz (by decide) hbut;have hbx:Hid (Bx wi0 bo 136 [.int .i64 hz,uS,.slice none 0 0,.slice none 0 0,.slice none 0 0,.slice none 0 0,.slice none 0 0]):=hbx;have hbol:Hid (bo<wi0.heap.size):=hbx.out.lt;have hlow:Hid (∀ U,But wi0 U [bo]→Below w2.heap.size w2 U):=fun U hU=>hbel.trans (hU.below hbel.size (m_ hbn));have hXX:Hid (∀ U,But wi0 U [bo]→Bx U bn 31 [.int .i64 hz,.slice a0 n0 c0,.slice a1 n1 c1,.slice a2 n2 c2,.slice a3 n3 c3,.slice a4 n4 c4,.slice a5 n5 c5,.slice aP nP cP,.slice aD nD cD,.slice aR nR cR,.slice aT nT cT,.slice aH nH cH]∧Bx U bb 24 [.slice a0 n0 c0,.slice a1 n1 c1,.slice a2 n2 c2,.slice a3 n3 c3,.slice a4 n4 c4,.slice a5 n5 c5]):=fun U hU=>⟨B1'.below (hlow.out U hU),B2.below (hlow.out U hU)⟩
 have hQQ:Hid (∀ U,But wi0 U [bo]→Bx U bq 136 [.int .i64 0,.slice none 0 0,.slice none 0 0,.slice none 0 0,.slice none 0 0,.slice none 0 0,.slice none 0 0]):=fun U hU=>Bq'.below (hlow.out U hU);have hwi:Hid (But wi0 wi0 [bo]):=But.refl _ _;rw [hgo];clear q0 q1 hgo hGL hBz huS hbut hbel hbn hbl y1 y2 zbn zbb B1' B2 Bq';go_wp2_with fail;go_loopw [5] (fun iv wr=> ∃ (i:Nat) (u:Value),i≤nP∧iv= .int .i64 i∧Hid (Bx wr bo 136 [.int .i64 hz,uS,u,.slice none 0 0,.slice none 0 0,.slice none 0 0,.slice none 0 0])∧Hid (wr.ownsRow wi0.heap.size 171 4 u i ((upTo2 (toldP W) i).flatMap spathE))∧Hid (But wi0 wr [bo])) (fun iv _=>nP-(intOf iv).toNat)
 case atStart=>exact⟨0,.slice none 0 0,Nat.zero_le _,rfl,hbx,World.ownsRow_nil _ _ _ _,But.refl _ _⟩
 case round=>
  obtain⟨i,u,hi,rfl,hbxi,own,hbut⟩:=hrel;obtain⟨hX1,hX2⟩:=hXX.out _ (hwi.out.trans hbut.out);have y0:=hX1.cell 7 rfl;clear hX1 hX2;by_cases hin:i<nP
  ·have hinI:(i:Int)<(nP:Int):=by omega
   obtain⟨b,o,x1,x2,x3,rfl,hbs,hx0,f0,f1,f2⟩:=hrP.out.trip hin;have hok:=List.all_eq_true.1 hwP.out _ (List.mem_of_getElem? hx0);unfold okP at hok;rw [Bool.and_eq_true] at hok;obtain⟨hk1,hk2⟩:=hok;simp only at hk1 hk2;rw [L0.out] at hk1 hk2;obtain⟨j1,j2⟩:=inB_iff.1 hk1;obtain⟨p,rfl⟩: ∃ p:Nat,x1=p:=⟨x1.toNat,by omega⟩
   obtain⟨j3,j4⟩:=inB_iff.1 hk2;obtain⟨q,rfl⟩: ∃ p:Nat,x2=p:=⟨x2.toNat,by omega⟩
   obtain⟨b0,o0,sp,e0,hb0,hsp,g0⟩:=hr0.out.str (k:=p) (by omega);obtain⟨b0',o0',sq,e0',_,hsq,g1⟩:=hr0.out.str (k:=q) (by omega);obtain⟨b1,o1,sn,rfl,hb1,hsn0,g2⟩:=hr1.out.str (k:=i) (by have:=K1.out;omega);subst e0;cases e0';have hx:toldP W i=some ⟨sn,sp,sq,x3⟩:=by unfold toldP;rw [hx0];simp only;rw [strAt_of hsn0,strAt_of hsp,strAt_of hsq]
   have hi1:(i:Int)<(n1:Int):=by have:=K1.out;omega
   clear hk1 hk2 j1 j3 hx0 hsp hsq hsn0;go_wp2_with fail;go_upto_region 6 with fail;refine wp_region_late [0,0,0,0,0,0,0,0,0,0,0,0,0,0,0,0,0,0,0,0,0,0,0,0,0,0,0,0,0,0,0,0,0,0,2,2,2,2] (by kernel_rfl) (by kernel_rfl) ?_;intro C hC;simp only [pickK,Nat.reduceEqDiff, ↓reduceIte]
   repeat(go_big_quiet_step (first
    |(intro _;with_reducible rfl)
    |(intro hc;have hR:=hwi.out.trans (hbut.out.trans (But.of_below hc _));obtain⟨hX1,hX2⟩:=hXX.out _ hR;have hbw:=hlow.out _ hR;have m0:=(hbxi.out.below hc).cell 2 rfl;have m1:=hX2.cell 1 rfl;have m2:=hX2.cell 0 rfl;have m3:=hX1.cell 7 rfl;have m4:=c_ hbw hb1 g2;have m5:=c_ hbw hb0 g0;have m6:=c_ hbw hb0 g1;have m7:=c_ hbw hbs f0;have m8:=c_ hbw hbs f1;have m9:=c_ hbw hbs f2;simp only [m0,m1,m2,m3,m4,m5,m6,m7,m8,m9,Result.andThen];exact⟨trivial,rfl⟩)))
   refine wpQuiet_nil ?_;clear hC;intro C' hC';refine wpQuiet_nil ?_;clear hC';intro wq hbq;have hsn:=upTo2_snoc hx;have hlen:=upTo2_len hallP.out i (by omega);obtain⟨W1,W2,W3,va,vb,h1,h2,h3,⟨_,b2,b3⟩,⟨_,_,t3⟩,_,hrun,own3,gv,cv,hvb⟩:=stepW (enc:=spathE) Tryz.underlying130 info_tSPath rfl (by decide) spathE_len spathE_one (by decide) (f:=2) (T:=136) _ (hbxi.out.below hbq) (own_below own.out hbq) hlen (by omega) hbol.out (hbut.out.trans (But.of_below hbq _));rw [←hsn] at own3;have own3:=H_ own3;have hb3:Hid (Bx W3 bo 136 [.int .i64 hz,uS,vb,.slice none 0 0,.slice none 0 0,.slice none 0 0,.slice none 0 0]):=b3;have ht3:=H_ t3;have v5:=b2.cell 2 rfl;have v6:=b2.frozen 2;subst h1 h2 hvb
   have hrun:(Builtin.append_ #[130,130] 130 #[u,.slice (some ⟨wq.heap.size,0,none⟩) 1 1]).run Tryz.prog (wq.alloc (.cells ([.string sn,.string sp,.string sq,.int .i64 x3]).toArray 171))= .ok (.slice (some ⟨gv,0,none⟩) (i+1) cv) W2:=hrun;rename_i k1 k2 k3 k4;clear k1 k2 k3 k4 hsn hlen b2 b3 t3 own hbxi hbut hbq;go_wp2_with (at_builtin;refine wpList_append_run ?r1 (.tmp 30) (.tmp 63) 130 ?r2 ?r3 ?r4 hrun ?_)
   case r1=>rfl
   case r2=>rfl
   try(case r3=>rfl)
   try(case r4=>rfl)
   go_roundw
   case rel=>exact⟨i+1,_,by omega,by go_num,hb3,own3,ht3⟩
   case measure=>simp [intOf];omega
  ·obtain rfl:nP=i:=by omega
   have hup: ∀ {e:TypeId} {z n:Nat} {v:Value} {xs:List Value} {b:Nat},136≠e→wi0.ownsRow b e z v n xs→wr.ownsRow b e z v n xs:=fun he h=>own_box h hbx.out he hbut.out;have hOS':=H_ (hup (by decide) hOS.out);have hOP:=own;have hwi':=H_ (hwi.out.trans hbut.out);have hbx':=hbxi;have hbol':Hid (bo<wr.heap.size):=hbxi.out.lt;obtain⟨uP,huP⟩: ∃ q,q=u:=⟨_,rfl⟩
   subst huP;obtain⟨wi1,hw1⟩: ∃ q,q=wr:=⟨_,rfl⟩
   subst hw1;clear hup own hbxi hbut hwi hbx hbol hi hin;clear hOS;have hOS:=hOS';have hwi:=hwi';have hbx:=hbx';have hbol:=hbol';clear hwi' hbx' hbol' hOS';go_wp2_with fail;go_loopw [6] (fun iv wr=> ∃ (i:Nat) (u:Value),i≤nD∧iv= .int .i64 i∧Hid (Bx wr bo 136 [.int .i64 hz,uS,uP,u,.slice none 0 0,.slice none 0 0,.slice none 0 0])∧Hid (wr.ownsRow wi1.heap.size 173 7 u i ((upTo2 (toldD W) i).flatMap sdoorE))∧Hid (But wi1 wr [bo])) (fun iv _=>nD-(intOf iv).toNat)
   case atStart=>exact⟨0,.slice none 0 0,Nat.zero_le _,rfl,hbx,World.ownsRow_nil _ _ _ _,But.refl _ _⟩
   case round=>
    obtain⟨i,u,hi,rfl,hbxi,own,hbut⟩:=hrel;obtain⟨hX1,hX2⟩:=hXX.out _ (hwi.out.trans hbut.out);have y0:=hX1.cell 8 rfl;clear hX1 hX2;by_cases hin:i<nD
    ·have hinI:(i:Int)<(nD:Int):=by omega
     obtain⟨b,o,⟨x1,x2,x3,df,de,du⟩,rfl,hbs,hx0,hc⟩:=hrD.out.get hin;have f0:=hc 0 _ rfl;have f1:=hc 1 _ rfl;have f2:=hc 2 _ rfl;have f3:=hc 3 _ rfl;have f4:=hc 4 _ rfl;have f5:=hc 5 _ rfl;simp only [Nat.add_zero] at f0 f1 f2 f3 f4 f5;have hok:=List.all_eq_true.1 hwD.out _ (List.mem_of_getElem? hx0);unfold okD at hok;rw [Bool.and_eq_true] at hok;obtain⟨hk1,hk2⟩:=hok;simp only at hk1 hk2;rw [L0.out] at hk1 hk2;obtain⟨j1,j2⟩:=inB_iff.1 hk1;obtain⟨p,rfl⟩: ∃ p:Nat,x1=p:=⟨x1.toNat,by omega⟩
     obtain⟨j3,j4⟩:=inB_iff.1 hk2;obtain⟨q,rfl⟩: ∃ p:Nat,x2=p:=⟨x2.toNat,by omega⟩
     obtain⟨b0,o0,sp,e0,hb0,hsp,g0⟩:=hr0.out.str (k:=p) (by omega);obtain⟨b0',o0',sq,e0',_,hsq,g1⟩:=hr0.out.str (k:=q) (by omega);obtain⟨b1,o1,sn,rfl,hb1,hsn0,g2⟩:=hr2.out.str (k:=i) (by have:=K2.out;omega);subst e0;cases e0';have hx:toldD W i=some ⟨sn,sp,sq,x3,df,de,du⟩:=by unfold toldD;rw [hx0];simp only;rw [strAt_of hsn0,strAt_of hsp,strAt_of hsq]
     have hi1:(i:Int)<(n2:Int):=by have:=K2.out;omega
     clear hk1 hk2 j1 j3 hx0 hsp hsq hsn0 hc;go_wp2_with fail;go_upto_region 10 with fail;refine wp_region_late [0,0,0,0,0,0,0,0,0,0,0,0,0,0,0,0,0,0,0,0,0,0,0,0,0,0,0,0,0,0,0,0,0,0,0,0,0,0,0,0,2,2,2,2] (by kernel_rfl) (by kernel_rfl) ?_;intro C hC;simp only [pickK,Nat.reduceEqDiff, ↓reduceIte]
     repeat(go_big_quiet_step (first
      |(intro _;with_reducible rfl)
      |(intro hc;have hR:=hwi.out.trans (hbut.out.trans (But.of_below hc _));obtain⟨hX1,hX2⟩:=hXX.out _ hR;have hbw:=hlow.out _ hR;have m0:=(hbxi.out.below hc).cell 3 rfl;have m1:=hX2.cell 2 rfl;have m2:=hX2.cell 0 rfl;have m3:=hX1.cell 8 rfl;have m4:=c_ hbw hb1 g2;have m5:=c_ hbw hb0 g0;have m6:=c_ hbw hb0 g1;have m7:=c_ hbw hbs f0;have m8:=c_ hbw hbs f1;have m9:=c_ hbw hbs f2;have m10:=c_ hbw hbs f3;have m11:=c_ hbw hbs f4;have m12:=c_ hbw hbs f5;simp only [m0,m1,m2,m3,m4,m5,m6,m7,m8,m9,m10,m11,m12,Result.andThen];exact⟨trivial,rfl⟩)))
     refine wpQuiet_nil ?_;clear hC;intro C' hC';refine wpQuiet_nil ?_;clear hC';intro wq hbq;have hsn:=upTo2_snoc hx;have hlen:=upTo2_len hallD.out i (by omega);obtain⟨W1,W2,W3,va,vb,h1,h2,h3,⟨_,b2,b3⟩,⟨_,_,t3⟩,_,hrun,own3,gv,cv,hvb⟩:=stepW (enc:=sdoorE) Tryz.underlying131 info_tSDoor rfl (by decide) sdoorE_len sdoorE_one (by decide) (f:=3) (T:=136) _ (hbxi.out.below hbq) (own_below own.out hbq) hlen (by omega) hbol.out (hbut.out.trans (But.of_below hbq _));rw [←hsn] at own3;have own3:=H_ own3;have hb3:Hid (Bx W3 bo 136 [.int .i64 hz,uS,uP,vb,.slice none 0 0,.slice none 0 0,.slice none 0 0]):=b3;have ht3:=H_ t3;have v5:=b2.cell 3 rfl;have v6:=b2.frozen 3;subst h1 h2 hvb
     have hrun:(Builtin.append_ #[131,131] 131 #[u,.slice (some ⟨wq.heap.size,0,none⟩) 1 1]).run Tryz.prog (wq.alloc (.cells ([.string sn,.string sp,.string sq,.int .i64 x3,.int .i64 df,.int .i64 de,.int .i64 du]).toArray 173))= .ok (.slice (some ⟨gv,0,none⟩) (i+1) cv) W2:=hrun;rename_i k1 k2 k3 k4;clear k1 k2 k3 k4 hsn hlen b2 b3 t3 own hbxi hbut hbq;go_wp2_with (at_builtin;refine wpList_append_run ?r1 (.tmp 74) (.tmp 113) 131 ?r2 ?r3 ?r4 hrun ?_)
     case r1=>rfl
     case r2=>rfl
     try(case r3=>rfl)
     try(case r4=>rfl)
     go_roundw
     case rel=>exact⟨i+1,_,by omega,by go_num,hb3,own3,ht3⟩
     case measure=>simp [intOf];omega
    ·obtain rfl:nD=i:=by omega
     have hup: ∀ {e:TypeId} {z n:Nat} {v:Value} {xs:List Value} {b:Nat},136≠e→wi1.ownsRow b e z v n xs→wr.ownsRow b e z v n xs:=fun he h=>own_box h hbx.out he hbut.out;have hOS':=H_ (hup (by decide) hOS.out);have hOP':=H_ (hup (by decide) hOP.out);have hOD:=own;have hwi':=H_ (hwi.out.trans hbut.out);have hbx':=hbxi;have hbol':Hid (bo<wr.heap.size):=hbxi.out.lt;obtain⟨uD,huD⟩: ∃ q,q=u:=⟨_,rfl⟩
     subst huD;obtain⟨wi2,hw2⟩: ∃ q,q=wr:=⟨_,rfl⟩
     subst hw2;clear hup own hbxi hbut hwi hbx hbol hi hin;clear hOS hOP;have hOS:=hOS';have hOP:=hOP';have hwi:=hwi';have hbx:=hbx';have hbol:=hbol';clear hwi' hbx' hbol' hOS' hOP';go_wp2_with fail;go_loopw [7] (fun iv wr=> ∃ (i:Nat) (u:Value) (L:List REl),i≤nR∧iv= .int .i64 i∧Hid (Bx wr bo 136 [.int .i64 hz,uS,uP,uD,u,.slice none 0 0,.slice none 0 0])∧Hid (wr.ownsRow wi2.heap.size 177 4 u i (L.flatMap relE))∧Hid (RowsT wr wi2.heap.size W L i)∧Hid (But wi2 wr [bo])) (fun iv _=>nR-(intOf iv).toNat)
     case atStart=>exact⟨0,.slice none 0 0,[],Nat.zero_le _,rfl,hbx,World.ownsRow_nil _ _ _ _,⟨rfl,fun k e h=>by simp at h⟩,But.refl _ _⟩
     case round=>
      obtain⟨i,u,L,hi,rfl,hbxi,own,hT,hbut⟩:=hrel;obtain⟨hX1,hX2⟩:=hXX.out _ (hwi.out.trans hbut.out);have y0:=hX1.cell 9 rfl;by_cases hin:i<nR
      ·have hinI:(i:Int)<(nR:Int):=by omega
       obtain⟨b,o,r,rfl,hbs,hx0,⟨s1,m1,d1,f0,rs1,e11,e12⟩,⟨s2,m2,d2,f1,rs2,e21,e22⟩,⟨s3,m3,d3,f2,rs3,e31,e32⟩⟩:=hrR.out.get hin;obtain⟨hl1,hl2,hl3⟩:=hfr.out r (List.mem_of_getElem? hx0);have hm1:m1≤100000:=by have:=rs1.len;omega
       have hm2:m2≤100000:=by have:=rs2.len;omega
       have hm3:m3≤100000:=by have:=rs3.len;omega
       obtain⟨b1,o1,sn,rfl,hb1,hsn0,g2⟩:=hr3.out.str (k:=i) (by have:=K3.out;omega);have hi1:(i:Int)<(n3:Int):=by have:=K3.out;omega
       have hx:toldR W i=some ⟨sn,r.stops.map (strAt W.stops),r.rides,r.stays⟩:=by unfold toldR;rw [hx0];simp only;rw [strAt_of hsn0]
       have hok:=List.all_eq_true.1 hwR.out _ (List.mem_of_getElem? hx0);unfold okR at hok;rw [L0.out] at hok;have hok:=H_ hok;have hbw:=hlow.out _ (hwi.out.trans hbut.out);have F1:=c_ hbw hbs f1;have F2:=c_ hbw hbs f2;have G2:=c_ hbw hb1 g2;have zb:=Nat.lt_of_lt_of_le hbs hbw.size;have zb1:=Nat.lt_of_lt_of_le hb1 hbw.size;have y1:=hX2.cell 3 rfl;have zbn:=hX1.lt;have zbb:=hX2.lt;have R1:=H_ rs1;have R2:=H_ (rs2.below hbw);have R3:=H_ (rs3.below hbw);have n2e:=rs2.len;have n3e:=rs3.len;have N1:=H_ rs1.len;have N2:=H_ n2e;have N3:=H_ n3e;have hxH:=H_ hx;have Hf0:=H_ f0;obtain⟨wo,hwo⟩: ∃ q,q=wr:=⟨_,rfl⟩
       subst hwo;clear hX1 hX2 rs1 rs2 rs3 hx hx0 hsn0 hbw n2e n3e hl1 hl2 hl3 e11 e12 e21 e22 e31 e32 f0 f1 f2 g2;rename_i hokX;clear hokX;go_wp2_with fail;go_upto_region 14 with fail;refine wp_region_ghost (fun fl x w=>GS wo [(fl 5,x 5,KNil wo.heap.size 2 1),(fl 12,x 12,KOwn wo.heap.size 2 1 m2 (r.rides.flatMap (numE .i64))),(fl 13,x 13,KNil wo.heap.size 2 1),(fl 20,x 20,KOwn wo.heap.size 2 1 m3 (r.stays.flatMap (numE .i64))),(fl 22,x 22,KBox wo.heap.size 177 [.string ⟨#[]⟩,.slice none 0 0,.slice none 0 0,.slice none 0 0])] [(fl 12,fl 5),(fl 20,fl 13)] [fl 12,fl 20] (fl 21) (x 21) (x 22) 177 [.string sn,.slice none 0 0,(x 12),(x 20)] (fl 23) w) (by kernel_rfl) (by kernel_rfl) (by kernel_rfl) (by kernel_rfl) (by kernel_rfl) ?_ ?_
       ·intro x0;refine GS.start ?_ ?_ ?_ rfl rfl
        ·intro e he;simp only [List.mem_cons,List.not_mem_nil,or_false] at he;rcases he with rfl|rfl|rfl|rfl|rfl<;>first|exact KNil.mono _ _ _|exact KOwn.mono _ _ _ _ _|exact KBox.mono _ _ _
        ·intro e he;simp only [List.mem_cons,List.not_mem_nil,or_false] at he;rcases he with rfl|rfl|rfl|rfl|rfl<;>rfl
        ·intro e he;simp only [List.mem_cons,List.not_mem_nil,or_false] at he;rcases he with rfl|rfl<;>rfl
       intro base O hbase hO
       have kx1:Hid (∀ xs,evX base O xs (.tmp 1)= .pointer (some ⟨bn,0,none⟩)∧evX base O xs (.tmp 3)= .pointer (some ⟨bb,0,none⟩)∧evX base O xs (.tmp 7)= .int .i64 (i:Int)∧evX base O xs (.tmp 8)=xs 22∧evX base O xs (.tmp 123)=xs 0∧evX base O xs (.tmp 124)=xs 1∧evX base O xs (.tmp 125)=xs 2∧evX base O xs (.tmp 126)=xs 3∧evX base O xs (.tmp 127)=xs 4∧evX base O xs (.tmp 128)=xs 5∧evX base O xs (.tmp 129)=xs 6∧evX base O xs (.tmp 130)=xs 7∧evX base O xs (.tmp 131)=xs 8∧evX base O xs (.tmp 132)=xs 9∧evX base O xs (.tmp 133)=xs 10∧evX base O xs (.tmp 134)=xs 11∧evX base O xs (.tmp 135)=xs 12∧evX base O xs (.tmp 136)=xs 13∧evX base O xs (.tmp 137)=xs 14∧evX base O xs (.tmp 138)=xs 15∧evX base O xs (.tmp 139)=xs 16∧evX base O xs (.tmp 140)=xs 17∧evX base O xs (.tmp 141)=xs 18∧evX base O xs (.tmp 142)=xs 19∧evX base O xs (.tmp 143)=xs 20∧evX base O xs (.tmp 144)=xs 21):=fun xs=>by rw [hbase,hO];exact⟨rfl,rfl,rfl,rfl,rfl,rfl,rfl,rfl,rfl,rfl,rfl,rfl,rfl,rfl,rfl,rfl,rfl,rfl,rfl,rfl,rfl,rfl,rfl,rfl,rfl,rfl⟩
       clear hbase hO;apply gd_ (n:=0);rfl
       ·intro fl xs w ev hG hD hl hdone hev ef K hK;have e3:=(hev (.tmp 3)).trans ((kx1.out xs).2.1);clear hev hD;go_simp;exact hK _ _ rfl hG
       apply gd_ (n:=1);rfl
       ·intro fl xs w ev hG hD hl hdone hev ef K hK;have e123:=(hev (.tmp 123)).trans ((kx1.out xs).2.2.2.2.1);have d0:=hD.at_ 0 rfl rfl;replace e123:=e123.trans d0;clear hev hD;have m0:=c_ hG.bel zbb y1;go_simp;exact hK _ _ rfl hG
       apply gd_ (n:=2);rfl
       ·intro fl xs w ev hG hD hl hdone hev ef K hK;have e7:=(hev (.tmp 7)).trans ((kx1.out xs).2.2.1);clear hev hD;go_simp;exact hK _ _ rfl hG
       apply gd_ (n:=3);rfl
       ·intro fl xs w ev hG hD hl hdone hev ef K hK;have e124:=(hev (.tmp 124)).trans ((kx1.out xs).2.2.2.2.2.1);have d1:=hD.at_ 1 rfl rfl;replace e124:=e124.trans d1;have e125:=(hev (.tmp 125)).trans ((kx1.out xs).2.2.2.2.2.2.1);have d2:=hD.at_ 2 rfl rfl;replace e125:=e125.trans d2;clear hev hD;go_simp;exact hK _ _ rfl hG
       apply gd_ (n:=4);rfl
       ·intro fl xs w ev hG hD hl hdone hev ef K hK;have e126:=(hev (.tmp 126)).trans ((kx1.out xs).2.2.2.2.2.2.2.1);have d3:=hD.at_ 3 rfl rfl;replace e126:=e126.trans d3;clear hev hD;have m0:=c_ hG.bel zb1 G2;go_simp;exact hK _ _ rfl hG
       refine ga_ (n:=5) (fun _=>True) ?_ ?_
       ·intro fl xs w ev hG hD hl hdone hev ef K hK;clear hev hD;have hfin:=KNil.new w wo.heap.size 2 1 hG.bel.size;go_simp;exact hK _ _ trivial (hG.stepO 0 rfl hl (below_alloc _ _ _) hfin (im_cons (fun _=>rfl) (im_cons (hG.im (fl 20,fl 13) (by simp)) im_nil)))
       apply gd_ (n:=6);rfl
       ·intro fl xs w ev hG hD hl hdone hev ef K hK;have e1:=(hev (.tmp 1)).trans ((kx1.out xs).1);clear hev hD;go_simp;exact hK _ _ rfl hG
       apply gd_ (n:=7);rfl
       ·intro fl xs w ev hG hD hl hdone hev ef K hK;have e129:=(hev (.tmp 129)).trans ((kx1.out xs).2.2.2.2.2.2.2.2.2.2.1);have d6:=hD.at_ 6 rfl rfl;replace e129:=e129.trans d6;clear hev hD;have m0:=c_ hG.bel zbn y0;go_simp;exact hK _ _ rfl hG
       apply gd_ (n:=8);rfl
       ·intro fl xs w ev hG hD hl hdone hev ef K hK;have e7:=(hev (.tmp 7)).trans ((kx1.out xs).2.2.1);clear hev hD;go_simp;exact hK _ _ rfl hG
       apply gd_ (n:=9);rfl
       ·intro fl xs w ev hG hD hl hdone hev ef K hK;have e130:=(hev (.tmp 130)).trans ((kx1.out xs).2.2.2.2.2.2.2.2.2.2.2.1);have d7:=hD.at_ 7 rfl rfl;replace e130:=e130.trans d7;have e131:=(hev (.tmp 131)).trans ((kx1.out xs).2.2.2.2.2.2.2.2.2.2.2.2.1);have d8:=hD.at_ 8 rfl rfl;replace e131:=e131.trans d8;clear hev hD;go_simp;exact hK _ _ rfl hG
       apply gd_ (n:=10);rfl
       ·intro fl xs w ev hG hD hl hdone hev ef K hK;have e132:=(hev (.tmp 132)).trans ((kx1.out xs).2.2.2.2.2.2.2.2.2.2.2.2.2.1);have d9:=hD.at_ 9 rfl rfl;replace e132:=e132.trans d9;clear hev hD;go_simp;exact hK _ _ rfl hG
       apply gd_ (n:=11);rfl
       ·intro fl xs w ev hG hD hl hdone hev ef K hK;have e133:=(hev (.tmp 133)).trans ((kx1.out xs).2.2.2.2.2.2.2.2.2.2.2.2.2.2.1);have d10:=hD.at_ 10 rfl rfl;replace e133:=e133.trans d10;clear hev hD;have m0:=c_ hG.bel zb F1;go_simp;exact hK _ _ rfl hG
       refine ga_ (n:=12) (fun _=>True) ?_ ?_
       ·intro fl xs w ev hG hD hl hdone hev ef K hK;have e128:=(hev (.tmp 128)).trans ((kx1.out xs).2.2.2.2.2.2.2.2.2.1);have e134:=(hev (.tmp 134)).trans ((kx1.out xs).2.2.2.2.2.2.2.2.2.2.2.2.2.2.2.1);have d11:=hD.at_ 11 rfl rfl;replace e134:=e134.trans d11;clear hev hD;obtain⟨hf0,hGL⟩:=hG.ahead 1 rfl hl;obtain⟨gq,hgq,hown⟩:=hGL.get 0 rfl (done_of hdone 5 rfl);rw [hgq] at hown;have hsrc:=R2.out.below hG.bel;have hbs0:=hG.bel.size;obtain⟨vq,wq,hrun,own1,hb1⟩:=own_copy Tryz.underlying45 info_tI64 rfl (by decide) num_len d2 hown hsrc (by omega) (by decide) hbs0;exact outcome_append (.tmp 128) (.tmp 134) 45 rfl (e128.trans hgq) e134 hrun (hK _ _ trivial (hG.step 1 rfl hl (by simp) hb1 own1 (im_cons (fun _=>done_of hdone 5 rfl) (im_cons (hG.im (fl 20,fl 13) (by simp)) im_nil))))
       refine ga_ (n:=13) (fun _=>True) ?_ ?_
       ·intro fl xs w ev hG hD hl hdone hev ef K hK;clear hev hD;have hfin:=KNil.new w wo.heap.size 2 1 hG.bel.size;go_simp;exact hK _ _ trivial (hG.stepO 2 rfl hl (below_alloc _ _ _) hfin (im_cons (hG.im (fl 12,fl 5) (by simp)) (im_cons (fun _=>rfl) im_nil)))
       apply gd_ (n:=14);rfl
       ·intro fl xs w ev hG hD hl hdone hev ef K hK;have e1:=(hev (.tmp 1)).trans ((kx1.out xs).1);clear hev hD;go_simp;exact hK _ _ rfl hG
       apply gd_ (n:=15);rfl
       ·intro fl xs w ev hG hD hl hdone hev ef K hK;have e137:=(hev (.tmp 137)).trans ((kx1.out xs).2.2.2.2.2.2.2.2.2.2.2.2.2.2.2.2.2.2.1);have d14:=hD.at_ 14 rfl rfl;replace e137:=e137.trans d14;clear hev hD;have m0:=c_ hG.bel zbn y0;go_simp;exact hK _ _ rfl hG
       apply gd_ (n:=16);rfl
       ·intro fl xs w ev hG hD hl hdone hev ef K hK;have e7:=(hev (.tmp 7)).trans ((kx1.out xs).2.2.1);clear hev hD;go_simp;exact hK _ _ rfl hG
       apply gd_ (n:=17);rfl
       ·intro fl xs w ev hG hD hl hdone hev ef K hK;have e138:=(hev (.tmp 138)).trans ((kx1.out xs).2.2.2.2.2.2.2.2.2.2.2.2.2.2.2.2.2.2.2.1);have d15:=hD.at_ 15 rfl rfl;replace e138:=e138.trans d15;have e139:=(hev (.tmp 139)).trans ((kx1.out xs).2.2.2.2.2.2.2.2.2.2.2.2.2.2.2.2.2.2.2.2.1);have d16:=hD.at_ 16 rfl rfl;replace e139:=e139.trans d16;clear hev hD;go_simp;exact hK _ _ rfl hG
       apply gd_ (n:=18);rfl
       ·intro fl xs w ev hG hD hl hdone hev ef K hK;have e140:=(hev (.tmp 140)).trans ((kx1.out xs).2.2.2.2.2.2.2.2.2.2.2.2.2.2.2.2.2.2.2.2.2.1);have d17:=hD.at_ 17 rfl rfl;replace e140:=e140.trans d17;clear hev hD;go_simp;exact hK _ _ rfl hG
       apply gd_ (n:=19);rfl
       ·intro fl xs w ev hG hD hl hdone hev ef K hK;have e141:=(hev (.tmp 141)).trans ((kx1.out xs).2.2.2.2.2.2.2.2.2.2.2.2.2.2.2.2.2.2.2.2.2.2.1);have d18:=hD.at_ 18 rfl rfl;replace e141:=e141.trans d18;clear hev hD;have m0:=c_ hG.bel zb F2;go_simp;exact hK _ _ rfl hG
       refine ga_ (n:=20) (fun _=>True) ?_ ?_
       ·intro fl xs w ev hG hD hl hdone hev ef K hK;have e136:=(hev (.tmp 136)).trans ((kx1.out xs).2.2.2.2.2.2.2.2.2.2.2.2.2.2.2.2.2.1);have e142:=(hev (.tmp 142)).trans ((kx1.out xs).2.2.2.2.2.2.2.2.2.2.2.2.2.2.2.2.2.2.2.2.2.2.2.1);have d19:=hD.at_ 19 rfl rfl;replace e142:=e142.trans d19;clear hev hD;obtain⟨hf0,hGL⟩:=hG.ahead 3 rfl hl;obtain⟨gq,hgq,hown⟩:=hGL.get 2 rfl (done_of hdone 13 rfl);rw [hgq] at hown;have hsrc:=R3.out.below hG.bel;have hbs0:=hG.bel.size;obtain⟨vq,wq,hrun,own1,hb1⟩:=own_copy Tryz.underlying45 info_tI64 rfl (by decide) num_len d3 hown hsrc (by omega) (by decide) hbs0;exact outcome_append (.tmp 136) (.tmp 142) 45 rfl (e136.trans hgq) e142 hrun (hK _ _ trivial (hG.step 3 rfl hl (by simp) hb1 own1 (im_cons (hG.im (fl 12,fl 5) (by simp)) (im_cons (fun _=>done_of hdone 13 rfl) im_nil))))
       refine ga_ (n:=21) (fun _=>True) ?_ ?_
       ·intro fl xs w ev hG hD hl hdone hev ef K hK;have e127:=(hev (.tmp 127)).trans ((kx1.out xs).2.2.2.2.2.2.2.2.1);have d4:=hD.at_ 4 rfl rfl;replace e127:=e127.trans d4;have e135:=(hev (.tmp 135)).trans ((kx1.out xs).2.2.2.2.2.2.2.2.2.2.2.2.2.2.2.2.1);have e143:=(hev (.tmp 143)).trans ((kx1.out xs).2.2.2.2.2.2.2.2.2.2.2.2.2.2.2.2.2.2.2.2.2.2.2.2.1);clear hev hD;obtain⟨wz135,hkz135⟩:=hG.wit 1 rfl (done_of hdone 12 rfl);obtain⟨aq135,cq135,hxq135,_⟩:=Rd.of_own num_len N2.out hkz135;rw [hxq135] at e135;clear hkz135;obtain⟨wz143,hkz143⟩:=hG.wit 3 rfl (done_of hdone 20 rfl);obtain⟨aq143,cq143,hxq143,_⟩:=Rd.of_own num_len N3.out hkz143;rw [hxq143] at e143;clear hkz143;have hfin:=hG.built (xb':= .agg (List.toArray [.string sn,.slice none 0 0,(xs 12),(xs 20)])) hl (by simp [done_of hdone 12 rfl,done_of hdone 20 rfl]) rfl;go_simp;rw [←hxq135];rw [←hxq143];exact hK _ _ trivial hfin
       refine ga_ (n:=22) (fun _=>True) ?_ ?_
       ·intro fl xs w ev hG hD hl hdone hev ef K hK;clear hev hD;have hfin:=hG.bel.size;go_simp;exact hK _ _ trivial (hG.stepO 4 rfl hl (below_alloc _ _ _) ⟨_,rfl,hfin,Bx.new w _ _⟩ (im_cons (hG.im (fl 12,fl 5) (by simp)) (im_cons (hG.im (fl 20,fl 13) (by simp)) im_nil)))
       refine ga_ (n:=23) (fun _=>True) ?_ ?_
       ·intro fl xs w ev hG hD hl hdone hev ef K hK;have e8:=(hev (.tmp 8)).trans ((kx1.out xs).2.2.2.1);have e144:=(hev (.tmp 144)).trans ((kx1.out xs).2.2.2.2.2.2.2.2.2.2.2.2.2.2.2.2.2.2.2.2.2.2.2.2.2);clear hev hD;have hGL:=hG.ini hl;obtain⟨gq,hgq,hq0,hbq⟩:=hGL.get 4 rfl (done_of hdone 22 rfl);obtain⟨hdeps,hbd⟩:=hG.bd (done_of hdone 21 rfl);obtain⟨aq135,cq135,hxq135,_⟩:=Rd.of_own num_len N2.out (hGL.get 1 rfl (hdeps _ (by simp)));obtain⟨aq143,cq143,hxq143,_⟩:=Rd.of_own num_len N3.out (hGL.get 3 rfl (hdeps _ (by simp)));have hall: ∀ e∈[fl 5,fl 12,fl 13,fl 20,fl 22],e=true:=by simp [done_of hdone 22 rfl,hdeps (fl 12) (by simp),hdeps (fl 20) (by simp),(show fl 5=true from hG.im (fl 12,fl 5) (by simp) (hdeps _ (by simp))),(show fl 13=true from hG.im (fl 20,fl 13) (by simp) (hdeps _ (by simp)))]
        exact outcome_store (.tmp 8) (.tmp 144) 177 rfl (e8.trans hgq) (e144.trans hbd) hbq (by kernel_rfl) rfl (by simp [hxq135,hxq143,Value.oneCell']) (fun w' hB hBut=>hK _ _ trivial (hG.put hl (done_of hdone 21 rfl) (by simpa using hall) hgq hq0 hbq.lt hB hBut))
       clear kx1;intro xs wj hG hI;clear hI;have hbelj:=hG.bel;obtain⟨waj,bj,hGLj,hgoj,hbnj,hblj,hbxj,hbutj⟩:=hG.fin rfl;clear hG;have q0j:=hGLj.get 0 rfl rfl;have q1j:=hGLj.get 1 rfl rfl;have q2j:=hGLj.get 2 rfl rfl;have q3j:=hGLj.get 3 rfl rfl;have q4j:=hGLj.get 4 rfl rfl;simp only [List.append_eq,List.cons_append,List.nil_append,setAll,List.setIfInBounds_toArray,List.set_cons_zero,List.set_cons_succ,Nat.zero_add,Nat.reduceAdd];obtain⟨A2,c2x,hA2,_⟩:=Rd.of_own num_len N2.out q1j;obtain⟨A3,c3x,hA3,_⟩:=Rd.of_own num_len N3.out q3j;obtain⟨bz,hbz,_,hBz⟩:=q4j;rw [hgoj] at hbz;cases hbz;have O2:=own_box q1j hBz (by decide) hbutj;have O3:=own_box q3j hBz (by decide) hbutj;rw [hA2] at O2 hbxj;rw [hA3] at O3 hbxj;have O2:=H_ O2;have O3:=H_ O3;have hbxj:=H_ hbxj;have hbelj:=H_ hbelj;have hbnj:=H_ hbnj;have hbljj:Hid (bj<wj.heap.size):=hbxj.out.lt
       have hYY:Hid (∀ U,But wj U [bj]→But wi0 U [bo]):=fun U hU=>hwi.out.trans (hbut.out.trans (But.of_below (hbelj.out.trans (hU.below hbelj.out.size (m_ hbnj.out))) _));rw [hgoj];clear q0j q1j q2j q3j hA2 hA3 hBz hbutj hgoj hGLj y0 y1 zb zb1 zbn zbb F1 F2 G2 R2 R3;rename_i k1 k2 k3 k4 k5;clear k1 k2 k3 k4 k5;go_wp2_with fail;go_loopw [9] (fun kv wr=> ∃ (k:Nat) (ux:Value),k≤m1∧kv= .int .i64 k∧Hid (Bx wr bj 177 [.string sn,ux,.slice A2 m2 c2x,.slice A3 m3 c3x])∧Hid (wr.ownsRow wj.heap.size 9 1 ux k (((r.stops.take k).map (strAt W.stops)).flatMap strE))∧Hid (But wj wr [bj])) (fun kv _=>m1-(intOf kv).toNat)
       case atStart=>exact⟨0,.slice none 0 0,Nat.zero_le _,rfl,hbxj,World.ownsRow_nil _ _ _ _,But.refl _ _⟩
       case round=>
        obtain⟨k,ux,hk,rfl,hbxk,ownk,hbutk⟩:=hrel;obtain⟨hX1,hX2⟩:=hXX.out _ (hYY.out _ hbutk.out);have y0:=hX1.cell 9 rfl;have F0:=c_ (hlow.out _ (hYY.out _ hbutk.out)) hbs Hf0.out;clear hX1 hX2;by_cases hkn:k<m1
        ·have hknI:(k:Int)<(m1:Int):=by omega
         obtain⟨b2,o2,x1,rfl,hb2,hxk,h0⟩:=R1.out.num hkn;have hox:=List.all_eq_true.1 hok.out _ (List.mem_of_getElem? hxk)
         try simp only at hox
         obtain⟨j1,j2⟩:=inB_iff.1 hox;obtain⟨p,rfl⟩: ∃ p:Nat,x1=p:=⟨x1.toNat,by omega⟩
         obtain⟨b0,o0,sp,rfl,hb0,hsp,g0⟩:=hr0.out.str (k:=p) (by omega);have htk:(r.stops.take (k+1)).map (strAt W.stops)=(r.stops.take k).map (strAt W.stops)++[sp]:=by rw [take_at hxk,List.map_append,List.map_singleton,strAt_of hsp]
         have hlen:((r.stops.take k).map (strAt W.stops)).length =k:=by rw [List.length_map,List.length_take];have:=N1.out;omega
         go_wp2_with fail;go_upto_region 18 with fail;refine wp_region_late [0,0,0,0,0,0,0,0,0,0,0,0,0,0,0,2,2,2,2] (by kernel_rfl) (by kernel_rfl) ?_;intro C hC;simp only [pickK,Nat.reduceEqDiff, ↓reduceIte]
         repeat(go_big_quiet_step (first
          |(intro _;with_reducible rfl)
          |(intro hc;have hR:=hYY.out _ (hbutk.out.trans (But.of_below hc _));obtain⟨hX1,hX2⟩:=hXX.out _ hR;have hbw:=hlow.out _ hR;have m0:=(hbxk.out.below hc).cell 1 rfl;have m1:=hX2.cell 0 rfl;have m2:=hX1.cell 9 rfl;have m3:=c_ hbw hbs Hf0.out;have m4:=c_ hbw hb2 h0;have m5:=c_ hbw hb0 g0;simp only [m0,m1,m2,m3,m4,m5,Result.andThen];exact⟨trivial,rfl⟩)))
         refine wpQuiet_nil ?_;clear hC;intro C' hC';refine wpQuiet_nil ?_;clear hC';intro wq hbq;obtain⟨W1,W2,W3,va,vb,h1,h2,h3,⟨_,c2,c3⟩,⟨_,_,t3⟩,_,hrun,own3,gv,cv,hvb⟩:=stepW (enc:=strE) Tryz.underlying22 info_tStr rfl (by decide) strE_len strE_one (by decide) (f:=1) (T:=177) sp (hbxk.out.below hbq) (own_below ownk.out hbq) hlen (by omega) hbljj.out (hbutk.out.trans (But.of_below hbq _));rw [←htk] at own3;have own3:=H_ own3;have hb3:Hid (Bx W3 bj 177 [.string sn,vb,.slice A2 m2 c2x,.slice A3 m3 c3x]):=c3;have ht3:=H_ t3;have v5:=c2.cell 1 rfl;have v6:=c2.frozen 1;subst h1 h2 hvb;have hrun:(Builtin.append_ #[22,22] 22 #[ux,.slice (some ⟨wq.heap.size,0,none⟩) 1 1]).run Tryz.prog (wq.alloc (.cells #[.string sp] 9))= .ok (.slice (some ⟨gv,0,none⟩) (k+1) cv) W2:=hrun;rename_i k1 k2 k3 k4;clear k1 k2 k3 k4 htk hlen hxk ownk hbxk hbutk hsp hox j1 c2 c3 t3 hbq
         go_wp2_with (at_builtin;refine wpList_append_run ?s1 (.tmp 157) (.tmp 171) 22 ?s2 ?s3 ?s4 hrun ?_)
         case s1=>rfl
         case s2=>rfl
         try(case s3=>rfl)
         try(case s4=>rfl)
         go_roundw
         case rel=>exact⟨k+1,_,by omega,by go_num,hb3,own3,ht3⟩
         case measure=>simp [intOf];omega
        ·obtain rfl:m1=k:=by omega
         have hbwr:Below wo.heap.size wo wr:=hbelj.out.trans (hbutk.out.below hbelj.out.size (m_ hbnj.out));have hml:(r.stops.map (strAt W.stops)).length =m1:=by rw [List.length_map];exact N1.out
         have ownF:=ownk.out;rw [List.take_of_length_le (by rw [N1.out];omega)] at ownF;obtain⟨A1,c1x,rfl,_⟩:=Rd.of_own strE_len hml ownF
         have hrow:RowT wr wi2.heap.size ((sn,(A1,m1,c1x),(A2,m2,c2x),(A3,m3,c3x)):REl) ⟨sn,r.stops.map (strAt W.stops),r.rides,r.stays⟩:=by
          have z1:=hbut.out.size;have z2:=hbelj.out.size;refine⟨rfl,?_,?_,?_⟩
          ·show wr.ownsRow _ _ _ (.slice A1 m1 c1x) (r.stops.map (strAt W.stops)).length _;rw [hml];exact own_base ownF (by omega)
          ·show wr.ownsRow _ _ _ (.slice A2 m2 c2x) r.rides.length _;rw [N2.out];exact own_base (own_box O2.out hbxj.out (by decide) hbutk.out) z1
          ·show wr.ownsRow _ _ _ (.slice A3 m3 c3x) r.stays.length _;rw [N3.out];exact own_base (own_box O3.out hbxj.out (by decide) hbutk.out) z1
         obtain⟨W1,W2,W3,va,vb,h1,h2,h3,⟨_,b2,b3⟩,⟨_,_,t3⟩,hkeep,hrun,own3,gv,cv,hvb⟩:=stepW (enc:=relE) Tryz.underlying132 info_tSRoute rfl (by decide) relE_len relE_one (by decide) (f:=4) (T:=136) ((sn,(A1,m1,c1x),(A2,m2,c2x),(A3,m3,c3x)):REl) (hbxi.out.below hbwr) (own_below own.out hbwr) hT.out.len (by omega) hbol.out (hbut.out.trans (But.of_below hbwr _));have hT3:Hid (RowsT W3 wi2.heap.size W (L++[((sn,(A1,m1,c1x),(A2,m2,c2x),(A3,m3,c3x)):REl)]) (i+1)):=((hT.out.up (fun _ _ _ _ _ _ _ _ h=>own_below h hbwr)).snoc hxH.out hrow).up (fun _ _ _ _ _ _ he hb h=>hkeep _ _ _ _ _ _ (by rcases he with rfl|rfl<;>decide) (by rw [hb];exact hbol.out) h);have own3:=H_ own3;have hb3:Hid (Bx W3 bo 136 [.int .i64 hz,uS,uP,uD,vb,.slice none 0 0,.slice none 0 0]):=b3;have ht3:=H_ t3;have v0:=(hbxi.out.below hbwr).cell 4 rfl;obtain⟨v1,v2,v3,v4⟩:=c_4 hbxk.out;have v5:=b2.cell 4 rfl;have v6:=b2.frozen 4
         subst h1 h2 hvb;have hrun:(Builtin.append_ #[132,132] 132 #[u,.slice (some ⟨wr.heap.size,0,none⟩) 1 1]).run Tryz.prog (wr.alloc (.cells #[.string sn,.slice A1 m1 c1x,.slice A2 m2 c2x,.slice A3 m3 c3x] 177))= .ok (.slice (some ⟨gv,0,none⟩) (i+1) cv) W2:=hrun;rename_i k1 k2 k3;clear k1 k2 k3 hkeep b2 b3 t3 hrow ownF hbwr ownk hbxk hbutk hT own hbxi hbut O2 O3;go_wp2_with (at_builtin;refine wpList_append_run ?r1 (.tmp 175) (.tmp 177) 132 ?r2 ?r3 ?r4 hrun ?_)
         case r1=>rfl
         case r2=>rfl
         try(case r3=>rfl)
         try(case r4=>rfl)
         skip
         go_roundw
         case rel=>exact⟨i+1,_,_,by omega,by go_num,hb3,own3,hT3,ht3⟩
         case measure=>simp [intOf];omega
      ·obtain rfl:nR=i:=by omega
       have hup: ∀ {e:TypeId} {z n:Nat} {v:Value} {xs:List Value} {b:Nat},136≠e→wi2.ownsRow b e z v n xs→wr.ownsRow b e z v n xs:=fun he h=>own_box h hbx.out he hbut.out;have hOS':=H_ (hup (by decide) hOS.out);have hOP':=H_ (hup (by decide) hOP.out);have hOD':=H_ (hup (by decide) hOD.out);have hOR:=own;have hwi':=H_ (hwi.out.trans hbut.out);have hbx':=hbxi;have hbol':Hid (bo<wr.heap.size):=hbxi.out.lt;obtain⟨uR,huR⟩: ∃ q,q=u:=⟨_,rfl⟩
       subst huR;obtain⟨wi3,hw3⟩: ∃ q,q=wr:=⟨_,rfl⟩
       subst hw3;clear hup own hbxi hbut hwi hbx hbol hi hin;have hTR:=hT;clear hT;clear hOS hOP hOD;have hOS:=hOS';have hOP:=hOP';have hOD:=hOD';have hwi:=hwi';have hbx:=hbx';have hbol:=hbol';clear hwi' hbx' hbol' hOS' hOP' hOD';go_wp2_with fail;go_loopw [10] (fun iv wr=> ∃ (i:Nat) (u:Value),i≤nT∧iv= .int .i64 i∧Hid (Bx wr bo 136 [.int .i64 hz,uS,uP,uD,uR,u,.slice none 0 0])∧Hid (wr.ownsRow wi3.heap.size 179 5 u i ((upTo2 (toldT W) i).flatMap stripE))∧Hid (But wi3 wr [bo])) (fun iv _=>nT-(intOf iv).toNat)
       case atStart=>exact⟨0,.slice none 0 0,Nat.zero_le _,rfl,hbx,World.ownsRow_nil _ _ _ _,But.refl _ _⟩
       case round=>
        obtain⟨i,u,hi,rfl,hbxi,own,hbut⟩:=hrel;obtain⟨hX1,hX2⟩:=hXX.out _ (hwi.out.trans hbut.out);have y0:=hX1.cell 10 rfl;clear hX1 hX2;by_cases hin:i<nT
        ·have hinI:(i:Int)<(nT:Int):=by omega
         obtain⟨b,o,⟨x1,tf,te,tu⟩,rfl,hbs,hx0,hc⟩:=hrT.out.get hin;have f0:=hc 0 _ rfl;have f1:=hc 1 _ rfl;have f2:=hc 2 _ rfl;have f3:=hc 3 _ rfl;simp only [Nat.add_zero] at f0 f1 f2 f3;have hok:=List.all_eq_true.1 hwT.out _ (List.mem_of_getElem? hx0);unfold okT at hok;simp only at hok;rw [L3.out] at hok;obtain⟨j1,j2⟩:=inB_iff.1 hok;obtain⟨p,rfl⟩: ∃ p:Nat,x1=p:=⟨x1.toNat,by omega⟩
         obtain⟨b0,o0,sp,rfl,hb0,hsp,g0⟩:=hr3.out.str (k:=p) (by omega);obtain⟨b1,o1,sn,rfl,hb1,hsn0,g2⟩:=hr4.out.str (k:=i) (by have:=K4.out;omega);have hx:toldT W i=some ⟨sn,sp,tf,te,tu⟩:=by unfold toldT;rw [hx0];simp only;rw [strAt_of hsn0,strAt_of hsp]
         have hi1:(i:Int)<(n4:Int):=by have:=K4.out;omega
         clear hok j1 hx0 hsp hsn0 hc;go_wp2_with fail;go_upto_region 23 with fail;refine wp_region_late [0,0,0,0,0,0,0,0,0,0,0,0,0,0,0,0,0,0,0,0,0,0,0,0,0,0,0,0,0,0,0,0,0,0,0,0,2,2,2,2] (by kernel_rfl) (by kernel_rfl) ?_;intro C hC;simp only [pickK,Nat.reduceEqDiff, ↓reduceIte]
         repeat(go_big_quiet_step (first
          |(intro _;with_reducible rfl)
          |(intro hc;have hR:=hwi.out.trans (hbut.out.trans (But.of_below hc _));obtain⟨hX1,hX2⟩:=hXX.out _ hR;have hbw:=hlow.out _ hR;have m0:=(hbxi.out.below hc).cell 5 rfl;have m1:=hX2.cell 4 rfl;have m2:=hX2.cell 3 rfl;have m3:=hX1.cell 10 rfl;have m4:=c_ hbw hb1 g2;have m5:=c_ hbw hb0 g0;have m6:=c_ hbw hbs f0;have m7:=c_ hbw hbs f1;have m8:=c_ hbw hbs f2;have m9:=c_ hbw hbs f3;simp only [m0,m1,m2,m3,m4,m5,m6,m7,m8,m9,Result.andThen];exact⟨trivial,rfl⟩)))
         refine wpQuiet_nil ?_;clear hC;intro C' hC';refine wpQuiet_nil ?_;clear hC';intro wq hbq;have hsn:=upTo2_snoc hx;have hlen:=upTo2_len hallT.out i (by omega);obtain⟨W1,W2,W3,va,vb,h1,h2,h3,⟨_,b2,b3⟩,⟨_,_,t3⟩,_,hrun,own3,gv,cv,hvb⟩:=stepW (enc:=stripE) Tryz.underlying133 info_tSTrip rfl (by decide) stripE_len stripE_one (by decide) (f:=5) (T:=136) _ (hbxi.out.below hbq) (own_below own.out hbq) hlen (by omega) hbol.out (hbut.out.trans (But.of_below hbq _));rw [←hsn] at own3;have own3:=H_ own3;have hb3:Hid (Bx W3 bo 136 [.int .i64 hz,uS,uP,uD,uR,vb,.slice none 0 0]):=b3;have ht3:=H_ t3;have v5:=b2.cell 5 rfl;have v6:=b2.frozen 5;subst h1 h2 hvb
         have hrun:(Builtin.append_ #[133,133] 133 #[u,.slice (some ⟨wq.heap.size,0,none⟩) 1 1]).run Tryz.prog (wq.alloc (.cells ([.string sn,.string sp,.int .i64 tf,.int .i64 te,.int .i64 tu]).toArray 179))= .ok (.slice (some ⟨gv,0,none⟩) (i+1) cv) W2:=hrun;rename_i k1 k2 k3 k4;clear k1 k2 k3 k4 hsn hlen b2 b3 t3 own hbxi hbut hbq;go_wp2_with (at_builtin;refine wpList_append_run ?r1 (.tmp 188) (.tmp 223) 133 ?r2 ?r3 ?r4 hrun ?_)
         case r1=>rfl
         case r2=>rfl
         try(case r3=>rfl)
         try(case r4=>rfl)
         go_roundw
         case rel=>exact⟨i+1,_,by omega,by go_num,hb3,own3,ht3⟩
         case measure=>simp [intOf];omega
        ·obtain rfl:nT=i:=by omega
         have hup: ∀ {e:TypeId} {z n:Nat} {v:Value} {xs:List Value} {b:Nat},136≠e→wi3.ownsRow b e z v n xs→wr.ownsRow b e z v n xs:=fun he h=>own_box h hbx.out he hbut.out;have hOS':=H_ (hup (by decide) hOS.out);have hOP':=H_ (hup (by decide) hOP.out);have hOD':=H_ (hup (by decide) hOD.out);have hOR':=H_ (hup (by decide) hOR.out);have hTR':=H_ (hTR.out.up (fun _ _ _ _ _ _ he _ h=>hup (by rcases he with rfl|rfl<;>decide) h));have hOT:=own;have hwi':=H_ (hwi.out.trans hbut.out);have hbx':=hbxi;have hbol':Hid (bo<wr.heap.size):=hbxi.out.lt;obtain⟨uT,huT⟩: ∃ q,q=u:=⟨_,rfl⟩
         subst huT;obtain⟨wi4,hw4⟩: ∃ q,q=wr:=⟨_,rfl⟩
         subst hw4;clear hup own hbxi hbut hwi hbx hbol hi hin;clear hOS hOP hOD hOR;have hOS:=hOS';have hOP:=hOP';have hOD:=hOD';have hOR:=hOR';clear hTR;have hTR:=hTR';clear hTR';have hwi:=hwi';have hbx:=hbx';have hbol:=hbol';clear hwi' hbx' hbol' hOS' hOP' hOD' hOR';go_wp2_with fail;go_loopw [11] (fun iv wr=> ∃ (i:Nat) (u:Value),i≤nH∧iv= .int .i64 i∧Hid (Bx wr bo 136 [.int .i64 hz,uS,uP,uD,uR,uT,u])∧Hid (wr.ownsRow wi4.heap.size 181 5 u i ((upTo2 (toldH W) i).flatMap shazE))∧Hid (But wi4 wr [bo])) (fun iv _=>nH-(intOf iv).toNat)
         case atStart=>exact⟨0,.slice none 0 0,Nat.zero_le _,rfl,hbx,World.ownsRow_nil _ _ _ _,But.refl _ _⟩
         case round=>
          obtain⟨i,u,hi,rfl,hbxi,own,hbut⟩:=hrel;obtain⟨hX1,hX2⟩:=hXX.out _ (hwi.out.trans hbut.out);have y0:=hX1.cell 11 rfl;clear hX1 hX2;by_cases hin:i<nH
          ·have hinI:(i:Int)<(nH:Int):=by omega
           obtain⟨b,o,⟨hs,x1,hf,he,hd⟩,rfl,hbs,hx0,hc⟩:=hrH.out.get hin;have f0:=hc 0 _ rfl;have f1:=hc 1 _ rfl;have f2:=hc 2 _ rfl;have f3:=hc 3 _ rfl;have f4:=hc 4 _ rfl;simp only [Nat.add_zero] at f0 f1 f2 f3 f4;have hok:=List.all_eq_true.1 hwH.out _ (List.mem_of_getElem? hx0);unfold okH at hok;simp only at hok;rw [L0.out,L1.out] at hok;obtain⟨b1,o1,sn,rfl,hb1,hsn0,g2⟩:=hr5.out.str (k:=i) (by have:=K5.out;omega);have hi1:(i:Int)<(n5:Int):=by have:=K5.out;omega
           obtain⟨hX1,hX2⟩:=hXX.out _ (hwi.out.trans hbut.out);have y1:=hX2.cell 0 rfl;have y2:=hX2.cell 1 rfl;have hbw:=hlow.out _ (hwi.out.trans hbut.out);have f0':=c_ hbw hbs f0;clear hX1 hX2 hbw
           cases hs with
           |true=>
            simp only [if_true,if_false,Bool.false_eq_true] at hok;obtain⟨j1,j2⟩:=inB_iff.1 hok;obtain⟨p,rfl⟩: ∃ p:Nat,x1=p:=⟨x1.toNat,by omega⟩
            obtain⟨b0,o0,sp,rfl,hb0,hsp,g0⟩:=hr0.out.str (k:=p) (by omega);have hx:toldH W i=some ⟨sn,sp,hf,he,hd⟩:=by unfold toldH;rw [hx0];simp only [if_true,if_false,Bool.false_eq_true];rw [strAt_of hsn0,strAt_of hsp]
            clear hok j1 hx0 hsp hsn0 hc;go_wp2_with fail;go_upto_region 30 with fail;refine wp_region_late [0,0,0,0,0,0,0,0,0,0,0,0,0,0,0,0,0,0,0,0,0,0,0,2,2,2,2] (by kernel_rfl) (by kernel_rfl) ?_;intro C hC;simp only [pickK,Nat.reduceEqDiff, ↓reduceIte]
            repeat(go_big_quiet_step (first
             |(intro _;with_reducible rfl)
             |(intro hc;have hR:=hwi.out.trans (hbut.out.trans (But.of_below hc _));obtain⟨hX1,hX2⟩:=hXX.out _ hR;have hbw:=hlow.out _ hR;have m0:=(hbxi.out.below hc).cell 6 rfl;have m1:=hX2.cell 5 rfl;have m2:=hX1.cell 11 rfl;have m3:=c_ hbw hb1 g2;have m4:=c_ hbw hb0 g0;have m5:=c_ hbw hbs f1;have m6:=c_ hbw hbs f2;have m7:=c_ hbw hbs f3;have m8:=c_ hbw hbs f4;simp only [m0,m1,m2,m3,m4,m5,m6,m7,m8,Result.andThen];exact⟨trivial,rfl⟩)))
            refine wpQuiet_nil ?_;clear hC;intro C' hC';refine wpQuiet_nil ?_;clear hC';intro wq hbq;have hsn:=upTo2_snoc hx;have hlen:=upTo2_len hallH.out i (by omega);obtain⟨W1,W2,W3,va,vb,h1,h2,h3,⟨_,b2,b3⟩,⟨_,_,t3⟩,_,hrun,own3,gv,cv,hvb⟩:=stepW (enc:=shazE) Tryz.underlying134 info_tSHaz rfl (by decide) shazE_len shazE_one (by decide) (f:=6) (T:=136) _ (hbxi.out.below hbq) (own_below own.out hbq) hlen (by omega) hbol.out (hbut.out.trans (But.of_below hbq _));rw [←hsn] at own3;have own3:=H_ own3;have hb3:Hid (Bx W3 bo 136 [.int .i64 hz,uS,uP,uD,uR,uT,vb]):=b3;have ht3:=H_ t3;have v5:=b2.cell 6 rfl;have v6:=b2.frozen 6;subst h1 h2 hvb;have hrun:(Builtin.append_ #[134,134] 134 #[u,.slice (some ⟨wq.heap.size,0,none⟩) 1 1]).run Tryz.prog (wq.alloc (.cells ([.string sn,.string sp,.int .i64 hf,.int .i64 he,.int .i64 hd]).toArray 181))= .ok (.slice (some ⟨gv,0,none⟩) (i+1) cv) W2:=hrun
            rename_i k1 k2 k3 k4;clear k1 k2 k3 k4 hsn hlen b2 b3 t3 own hbxi hbut hbq;go_wp2_with (at_builtin;refine wpList_append_run ?r1 (.tmp 244) (.tmp 266) 134 ?r2 ?r3 ?r4 hrun ?_)
            case r1=>rfl
            case r2=>rfl
            try(case r3=>rfl)
            try(case r4=>rfl)
            go_roundw
            case rel=>exact⟨i+1,_,by omega,by go_num,hb3,own3,ht3⟩
            case measure=>simp [intOf];omega
           |false=>
            simp only [if_true,if_false,Bool.false_eq_true] at hok;obtain⟨j1,j2⟩:=inB_iff.1 hok;obtain⟨p,rfl⟩: ∃ p:Nat,x1=p:=⟨x1.toNat,by omega⟩
            obtain⟨b0,o0,sp,rfl,hb0,hsp,g0⟩:=hr1.out.str (k:=p) (by omega);have hx:toldH W i=some ⟨sn,sp,hf,he,hd⟩:=by unfold toldH;rw [hx0];simp only [if_true,if_false,Bool.false_eq_true];rw [strAt_of hsn0,strAt_of hsp]
            clear hok j1 hx0 hsp hsn0 hc;go_wp2_with fail;go_upto_region 30 with fail;refine wp_region_late [0,0,0,0,0,0,0,0,0,0,0,0,0,0,0,0,0,0,0,0,0,0,0,2,2,2,2] (by kernel_rfl) (by kernel_rfl) ?_;intro C hC;simp only [pickK,Nat.reduceEqDiff, ↓reduceIte]
            repeat(go_big_quiet_step (first
             |(intro _;with_reducible rfl)
             |(intro hc;have hR:=hwi.out.trans (hbut.out.trans (But.of_below hc _));obtain⟨hX1,hX2⟩:=hXX.out _ hR;have hbw:=hlow.out _ hR;have m0:=(hbxi.out.below hc).cell 6 rfl;have m1:=hX2.cell 5 rfl;have m2:=hX1.cell 11 rfl;have m3:=c_ hbw hb1 g2;have m4:=c_ hbw hb0 g0;have m5:=c_ hbw hbs f1;have m6:=c_ hbw hbs f2;have m7:=c_ hbw hbs f3;have m8:=c_ hbw hbs f4;simp only [m0,m1,m2,m3,m4,m5,m6,m7,m8,Result.andThen];exact⟨trivial,rfl⟩)))
            refine wpQuiet_nil ?_;clear hC;intro C' hC';refine wpQuiet_nil ?_;clear hC';intro wq hbq;have hsn:=upTo2_snoc hx;have hlen:=upTo2_len hallH.out i (by omega);obtain⟨W1,W2,W3,va,vb,h1,h2,h3,⟨_,b2,b3⟩,⟨_,_,t3⟩,_,hrun,own3,gv,cv,hvb⟩:=stepW (enc:=shazE) Tryz.underlying134 info_tSHaz rfl (by decide) shazE_len shazE_one (by decide) (f:=6) (T:=136) _ (hbxi.out.below hbq) (own_below own.out hbq) hlen (by omega) hbol.out (hbut.out.trans (But.of_below hbq _));rw [←hsn] at own3;have own3:=H_ own3;have hb3:Hid (Bx W3 bo 136 [.int .i64 hz,uS,uP,uD,uR,uT,vb]):=b3;have ht3:=H_ t3;have v5:=b2.cell 6 rfl;have v6:=b2.frozen 6;subst h1 h2 hvb;have hrun:(Builtin.append_ #[134,134] 134 #[u,.slice (some ⟨wq.heap.size,0,none⟩) 1 1]).run Tryz.prog (wq.alloc (.cells ([.string sn,.string sp,.int .i64 hf,.int .i64 he,.int .i64 hd]).toArray 181))= .ok (.slice (some ⟨gv,0,none⟩) (i+1) cv) W2:=hrun
            rename_i k1 k2 k3 k4;clear k1 k2 k3 k4 hsn hlen b2 b3 t3 own hbxi hbut hbq;go_wp2_with (at_builtin;refine wpList_append_run ?r1 (.tmp 244) (.tmp 266) 134 ?r2 ?r3 ?r4 hrun ?_)
            case r1=>rfl
            case r2=>rfl
            try(case r3=>rfl)
            try(case r4=>rfl)
            go_roundw
            case rel=>exact⟨i+1,_,by omega,by go_num,hb3,own3,ht3⟩
            case measure=>simp [intOf];omega
          ·obtain rfl:nH=i:=by omega
           have hup: ∀ {e:TypeId} {z n:Nat} {v:Value} {xs:List Value} {b:Nat},136≠e→wi4.ownsRow b e z v n xs→wr.ownsRow b e z v n xs:=fun he h=>own_box h hbx.out he hbut.out;have hOS':=H_ (hup (by decide) hOS.out);have hOP':=H_ (hup (by decide) hOP.out);have hOD':=H_ (hup (by decide) hOD.out);have hOR':=H_ (hup (by decide) hOR.out);have hOT':=H_ (hup (by decide) hOT.out);have hTR':=H_ (hTR.out.up (fun _ _ _ _ _ _ he _ h=>hup (by rcases he with rfl|rfl<;>decide) h));have hOH:=own;have hwi':=H_ (hwi.out.trans hbut.out);have hbx':=hbxi;have hbol':Hid (bo<wr.heap.size):=hbxi.out.lt;obtain⟨uH,huH⟩: ∃ q,q=u:=⟨_,rfl⟩
           subst huH;obtain⟨wi5,hw5⟩: ∃ q,q=wr:=⟨_,rfl⟩
           subst hw5;clear hup own hbxi hbut hwi hbx hbol hi hin;clear hOS hOP hOD hOR hOT;have hOS:=hOS';have hOP:=hOP';have hOD:=hOD';have hOR:=hOR';have hOT:=hOT';clear hTR;have hTR:=hTR';clear hTR';have hwi:=hwi';have hbx:=hbx';have hbol:=hbol';clear hwi' hbx' hbol' hOS' hOP' hOD' hOR' hOT';have lP2:(upTo2 (toldP W) nP).length =nP:=upTo2_len hallP.out nP (Nat.le_refl _);have lD2:(upTo2 (toldD W) nD).length =nD:=upTo2_len hallD.out nD (Nat.le_refl _);have lT2:(upTo2 (toldT W) nT).length =nT:=upTo2_len hallT.out nT (Nat.le_refl _);have lH2:(upTo2 (toldH W) nH).length =nH:=upTo2_len hallH.out nH (Nat.le_refl _);obtain⟨AS,xS,eS,_⟩:=Rd.of_own strE_len L0.out hOS.out;obtain⟨AP,xP,eP,_⟩:=Rd.of_own spathE_len lP2 hOP.out;obtain⟨AD,xD,eD,_⟩:=Rd.of_own sdoorE_len lD2 hOD.out;obtain⟨AR,xR,eR,_⟩:=Rd.of_own relE_len hTR.out.len hOR.out;obtain⟨AT,xT,eT,_⟩:=Rd.of_own stripE_len lT2 hOT.out
           obtain⟨AH,xH,eH,_⟩:=Rd.of_own shazE_len lH2 hOH.out;subst eS eP eD eR eT eH;have hBq:=hQQ.out _ hwi.out;obtain⟨hBF,hbF⟩:=hBq.row [.int .i64 hz,.slice AS n0 xS,.slice AP nP xP,.slice AD nD xD,.slice AR nR xR,.slice AT nT xT,.slice AH nH xH];obtain⟨wF,hwF⟩: ∃ q,wi5.setRow bq (List.toArray [.int .i64 hz,.slice AS n0 xS,.slice AP nP xP,.slice AD nD xD,.slice AR nR xR,.slice AT nT xT,.slice AH nH xH])=q:=⟨_,rfl⟩
           rw [hwF] at hBF hbF
           have hfin:RS wF (toldS W) ⟨AS,AP,AD,AR,AT,AH,n0,nP,nD,nR,nT,nH,xS,xP,xD,xR,xT,xH⟩:=by
            refine⟨rd_own strE_len L0.out (own_box hOS.out hBq (by decide) hbF),?_,?_,?_,?_,?_⟩
            ·show Rd _ _ _ _ _ (upTo2 (toldP W) W.paths.length);rw [LP.out];exact rd_own spathE_len lP2 (own_box hOP.out hBq (by decide) hbF)
            ·show Rd _ _ _ _ _ (upTo2 (toldD W) W.doors.length);rw [LD.out];exact rd_own sdoorE_len lD2 (own_box hOD.out hBq (by decide) hbF)
            ·show RSRoutes _ _ _ (upTo2 (toldR W) W.routes.length);rw [LR.out];exact(hTR.out.up (fun _ _ _ _ _ _ he _ h=>own_box h hBq (by rcases he with rfl|rfl<;>decide) hbF)).done (rd_own relE_len hTR.out.len (own_box hOR.out hBq (by decide) hbF)) hallR.out
            ·show Rd _ _ _ _ _ (upTo2 (toldT W) W.trips.length);rw [LT.out];exact rd_own stripE_len lT2 (own_box hOT.out hBq (by decide) hbF)
            ·show Rd _ _ _ _ _ (upTo2 (toldH W) W.hazs.length);rw [LH.out];exact rd_own shazE_len lH2 (own_box hOH.out hBq (by decide) hbF)
           have hbelF:Below we.heap.size we wF:=(hup.out _ (hlow.out _ hwi.out)).trans (hbF.below (hup.out _ (hlow.out _ hwi.out)).size (m_ hbeq.out));have hfin:=H_ hfin;have hbelF:=H_ hbelF;have hBq:=H_ hBq;have hBF:=H_ hBF;rename_i g1X g2X g3X g4X;clear g1X g2X g3X g4X hbF hXX lP2 lD2 lT2 lH2 hOS hOP hOD hOR hOT hOH hTR;go_upto_region 31 with fail;refine wp_region_lit ?_;refine wpList_load_bx (.tmp 4) 136 rfl rfl rfl hbx.out (by kernel_rfl) (by kernel_rfl) ?_;refine wpList_store_bx (.tmp 2) (.tmp 269) 136 rfl rfl rfl rfl hBq.out (by kernel_rfl) rfl rfl hwF ?_;refine wpList_nil ?_;clear hwF hbx;rename_i hKx;refine hKx _ _ (wp_ret ?_);refine bodyPost_bx (s:=2) (t:=136) rfl rfl hBF.out (by kernel_rfl) (by kernel_rfl) rfl ?_;exact⟨⟨AS,AP,AD,AR,AT,AH,n0,nP,nD,nR,nT,nH,xS,xP,xD,xR,xT,xH⟩,by simp only [sVal,toldS,Hhz.out],hfin.out,hbelF.out⟩
