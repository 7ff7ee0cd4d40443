/- Merged. -/
import Derived.Test.YtechdefolfboeaaGreatDoorPo15
set_option linter.unusedVariables false
set_option linter.unusedSimpArgs false
set_option maxRecDepth 100000
set_option maxHeartbeats 2000000
namespace Go.Proofs.YtechdefolfboeaaGreatDoor.B
open Go.RowKit
section
variable {P:Program} {Q:Exit→Act→World→Prop}
end
end Go.Proofs.YtechdefolfboeaaGreatDoor.B
namespace Go.Proofs.YtechdefolfboeaaGreatDoor
open Go.RowKit B K
theorem ptold1_any (bn A n c:Nat) (a:Option Addr) (l:List Str) (x:Int) (w:World) (hc:w.cell? ⟨bn,0,none⟩=some (.slice a n c)) (hr:Rd w 1 strE a n l) (h0:0≤x) (h1:x<(n:Int)):
 Calls Tryz.prog 135 #[.int .i64 x,.pointer (some ⟨bn,0,none⟩)] w fun e w'=>e= .returned (.string (strAt l x))∧Below w.heap.size w w':=by
 obtain⟨p,rfl⟩: ∃ p:Nat,x=p:=⟨x.toNat,by omega⟩
 obtain⟨b,o,s,rfl,hb,hx,g⟩:=hr.str (k:=p) (by omega);rw [strAt_of hx];clear hr hx;go_enter Tryz.func135,Tryz.ntmps135;go_wp2_with fail;go_returns;exact⟨rfl,Below.refl _ _⟩
theorem ptold_any (M:WorldP) (V:WV) (we:World) (hr:RW we M V) (hf:Few M) (hw:wholeB M=true):Calls Tryz.prog 95 #[wVal M V] we (RetTold M we):=by
 obtain⟨a0,a1,a2,a3,a4,a5,aP,aD,aR,aT,aH,n0,n1,n2,n3,n4,n5,nP,nD,nR,nT,nH,c0,c1,c2,c3,c4,c5,cP,cD,cR,cT,cH⟩:=V;have L0:Hid (M.stops.length=n0):=hr.r0.len;have L1:Hid (M.nPaths.length=n1):=hr.r1.len;have L3:Hid (M.nRoutes.length=n3):=hr.r3.len;have LP:Hid (M.paths.length=nP):=hr.rP.len;have LD:Hid (M.doors.length=nD):=hr.rD.len;have LR':Hid (M.routes.length=nR):=hr.rR.len;have LT:Hid (M.trips.length=nT):=hr.rT.len;have LH:Hid (M.hazs.length=nH):=hr.rH.len;have h2:M.nDoors.length=n2:=hr.r2.len;have h4:M.nTrips.length=n4:=hr.r4.len;have h5:M.nHazs.length=n5:=hr.r5.len;have mS:n0≤100000:=by rw [←L0.out];exact hf.s0
 have mP:nP≤100000:=by rw [←LP.out];exact hf.sP
 have mD:nD≤100000:=by rw [←LD.out];exact hf.sD
 have mR:nR≤100000:=by rw [←LR'.out];exact hf.sR
 have mT:nT≤100000:=by rw [←LT.out];exact hf.sT
 have mH:nH≤100000:=by rw [←LH.out];exact hf.sH
 have hfr:=H_ hf.sr;unfold wholeB lensB at hw;simp only [Bool.and_eq_true,decide_eq_true_eq] at hw;obtain⟨⟨⟨⟨⟨⟨q1,q2,q3,q4,q5⟩,wP⟩,wD⟩,wR⟩,wT⟩,wH⟩:=hw;have hwP:=H_ wP;have hwD:=H_ wD;have hwR:=H_ wR;have hwT:=H_ wT;have hwH:=H_ wH;have K1:Hid (n1=nP):=by have:=L1.out;have:=LP.out;show _=_;omega
 have K2:Hid (n2=nD):=by have:=LD.out;show _=_;omega
 have K3:Hid (n3=nR):=by have:=L3.out;have:=LR'.out;show _=_;omega
 have K4:Hid (n4=nT):=by have:=LT.out;show _=_;omega
 have K5:Hid (n5=nH):=by have:=LH.out;show _=_;omega
 have hallP:Hid (∀ i,i<nP→(toldP M i).isSome):=fun i hi=>toldP_some M (by rw [LP.out];exact hi);have hallD:Hid (∀ i,i<nD→(toldD M i).isSome):=fun i hi=>toldD_some M (by rw [LD.out];exact hi);have hallR:Hid (∀ i,i<nR→(toldR M i).isSome):=fun i hi=>toldR_some M (by rw [LR'.out];exact hi);have hallT:Hid (∀ i,i<nT→(toldT M i).isSome):=fun i hi=>toldT_some M (by rw [LT.out];exact hi);have hallH:Hid (∀ i,i<nH→(toldH M i).isSome):=fun i hi=>toldH_some M (by rw [LH.out];exact hi);have hrH:=H_ hr;simp only [wVal];clear hr hf wP wD wR wT wH q1 q2 q3 q4 q5 h2 h4 h5
 obtain⟨w1,w2,b1,b2,hw1,hw2,hbE1,hbE2,hbF2,hb1,hb2,hup,B1,B2,hge1,hge2⟩:=enter2 we 31 136 [.int .i64 M.hz,.slice a0 n0 c0,.slice a1 n1 c1,.slice a2 n2 c2,.slice a3 n3 c3,.slice a4 n4 c4,.slice a5 n5 c5,.slice aP nP cP,.slice aD nD cD,.slice aR nR cR,.slice aT nT cT,.slice aH nH cH] [.int .i64 0,.slice none 0 0,.slice none 0 0,.slice none 0 0,.slice none 0 0,.slice none 0 0,.slice none 0 0];obtain⟨p0,p1,p2,p3,p4,p5,p6,p7,p8,p9,p10,p11⟩:=c_12 B1;obtain⟨wn,bn,hwn,hbnE,hbwn,Bwn⟩:=box1 w2 24 [.slice a0 n0 c0,.slice a1 n1 c1,.slice a2 n2 c2,.slice a3 n3 c3,.slice a4 n4 c4,.slice a5 n5 c5];have hbN:=h_ hup hbwn;have z0:=Bwn.cell 0 rfl;have hB1:=H_ (B1.below hbwn);have hB2:=H_ (B2.below hbwn);have hBn:=H_ Bwn;have hlt:Hid (b1<wn.heap.size∧b2<wn.heap.size∧bn<wn.heap.size∧we.heap.size≤b2):=⟨hB1.out.lt,hB2.out.lt,Bwn.lt,hge2.out⟩
 have hlow:Hid (∀ wr,Below wn.heap.size wn wr→RW wr M ⟨a0,a1,a2,a3,a4,a5,aP,aD,aR,aT,aH,n0,n1,n2,n3,n4,n5,nP,nD,nR,nT,nH,c0,c1,c2,c3,c4,c5,cP,cD,cR,cT,cH⟩):=fun wr h=>(hrH.out.below hbN.out).below h;clear B1 B2 Bwn hb1 hb2 hbwn;obtain⟨r0,r1,r2,r3,r4,r5,r6,r7,r8,r9,r10,r11⟩:=c_12 hB1.out;obtain⟨y0,y1,y2,y3,y4,y5⟩:=c_6 hBn.out;go_enter Tryz.func95,Tryz.ntmps95;go_upto_region 2 with fail;clear hw1 hw2 hbE1 hbE2 hbF2 hwn hbnE p0 p1 p2 p3 p4 p5 p6 p7 p8 p9 p10 p11;go_cut [4] (fun v wx=> ∃ bo vS,v= .pointer (some ⟨bo,0,none⟩)∧TS M wn bo wx vS (.slice none 0 0) (.slice none 0 0) (.slice none 0 0) (.slice none 0 0) (.slice none 0 0) 0 0 0 0 0 [])
 case first=>
  have hcl:=H_ (fun w h=>clStr_any a0 n0 c0 M.stops w ((hlow.out w h).r0) (by omega));go_wp2_with fail;go_upto_region 2 with fail;refine wp_region_ghost (fun fl x w=>GS wn [(fl 4,x 4,KOwn wn.heap.size 9 1 n0 (M.stops.flatMap strE)),(fl 6,x 6,KBox wn.heap.size 136 [.int .i64 0,.slice none 0 0,.slice none 0 0,.slice none 0 0,.slice none 0 0,.slice none 0 0,.slice none 0 0])] [] [fl 4] (fl 5) (x 5) (x 6) 136 [.int .i64 M.hz,(x 4),.slice none 0 0,.slice none 0 0,.slice none 0 0,.slice none 0 0,.slice none 0 0] (fl 7) w) (by kernel_rfl) (by kernel_rfl) (by kernel_rfl) (by kernel_rfl) (by kernel_rfl) ?_ ?_
  ·intro x0;refine GS.start ?_ ?_ ?_ rfl rfl
   ·intro e he;simp only [List.mem_cons,List.not_mem_nil,or_false] at he;rcases he with rfl|rfl<;>first|exact KNil.mono _ _ _|exact KOwn.mono _ _ _ _ _|exact KBox.mono _ _ _
   ·intro e he;simp only [List.mem_cons,List.not_mem_nil,or_false] at he;rcases he with rfl|rfl<;>rfl
   ·intro e he;cases he
  intro base O hbase hO;have kx1:Hid (∀ xs,evX base O xs (.tmp 1)= .pointer (some ⟨b1,0,none⟩)∧evX base O xs (.tmp 3)= .pointer (some ⟨bn,0,none⟩)∧evX base O xs (.tmp 4)=xs 6∧evX base O xs (.tmp 18)=xs 0∧evX base O xs (.tmp 19)=xs 1∧evX base O xs (.tmp 20)=xs 2∧evX base O xs (.tmp 21)=xs 3∧evX base O xs (.tmp 22)=xs 4∧evX base O xs (.tmp 23)=xs 5):=fun xs=>by rw [hbase,hO];exact⟨rfl,rfl,rfl,rfl,rfl,rfl,rfl,rfl,rfl⟩
  clear hbase hO;apply gd_ (n:=0);rfl
  ·intro fl xs w ev hG hD hl hdone hev ef K hK;have e1:=(hev (.tmp 1)).trans ((kx1.out xs).1);clear hev hD;go_simp;exact hK _ _ rfl hG
  apply gd_ (n:=1);rfl
  ·intro fl xs w ev hG hD hl hdone hev ef K hK;have e18:=(hev (.tmp 18)).trans ((kx1.out xs).2.2.2.1);have d0:=hD.at_ 0 rfl rfl;replace e18:=e18.trans d0;clear hev hD;have m0:=c_ hG.bel hlt.out.1 r0;go_simp;exact hK _ _ rfl hG
  apply gd_ (n:=2);rfl
  ·intro fl xs w ev hG hD hl hdone hev ef K hK;have e3:=(hev (.tmp 3)).trans ((kx1.out xs).2.1);clear hev hD;go_simp;exact hK _ _ rfl hG
  apply gd_ (n:=3);rfl
  ·intro fl xs w ev hG hD hl hdone hev ef K hK;have e20:=(hev (.tmp 20)).trans ((kx1.out xs).2.2.2.2.2.1);have d2:=hD.at_ 2 rfl rfl;replace e20:=e20.trans d2;clear hev hD;have m0:=c_ hG.bel hlt.out.2.2.1 y0;go_simp;exact hK _ _ rfl hG
  refine ga_ (n:=4) (fun _=>True) ?_ ?_
  ·intro fl xs w ev hG hD hl hdone hev ef K hK;have e21:=(hev (.tmp 21)).trans ((kx1.out xs).2.2.2.2.2.2.1);have d3:=hD.at_ 3 rfl rfl;replace e21:=e21.trans d3;clear hev hD;go_simp;refine(hcl.out w hG.bel).mono ?_;rintro e w'' ⟨v,rfl,ho,hb⟩;exact⟨_,rfl,hK _ _ trivial (hG.step 0 rfl hl (by simp) hb (own_base ho hG.bel.size) im_nil)⟩
  refine ga_ (n:=5) (fun _=>True) ?_ ?_
  ·intro fl xs w ev hG hD hl hdone hev ef K hK;have e19:=(hev (.tmp 19)).trans ((kx1.out xs).2.2.2.2.1);have d1:=hD.at_ 1 rfl rfl;replace e19:=e19.trans d1;have e22:=(hev (.tmp 22)).trans ((kx1.out xs).2.2.2.2.2.2.2.1);clear hev hD;obtain⟨wz22,hkz22⟩:=hG.wit 0 rfl (done_of hdone 4 rfl);obtain⟨aq22,cq22,hxq22,_⟩:=Rd.of_own strE_len L0.out hkz22;rw [hxq22] at e22;clear hkz22;have hfin:=hG.built (xb':= .agg (List.toArray [.int .i64 M.hz,(xs 4),.slice none 0 0,.slice none 0 0,.slice none 0 0,.slice none 0 0,.slice none 0 0])) hl (by simp [done_of hdone 4 rfl]) rfl;go_simp;rw [←hxq22];exact hK _ _ trivial hfin
  refine ga_ (n:=6) (fun _=>True) ?_ ?_
  ·intro fl xs w ev hG hD hl hdone hev ef K hK;clear hev hD;have hfin:=hG.bel.size;go_simp;exact hK _ _ trivial (hG.stepO 1 rfl hl (below_alloc _ _ _) ⟨_,rfl,hfin,Bx.new w _ _⟩ im_nil)
  refine ga_ (n:=7) (fun _=>True) ?_ ?_
  ·intro fl xs w ev hG hD hl hdone hev ef K hK;have e4:=(hev (.tmp 4)).trans ((kx1.out xs).2.2.1);have e23:=(hev (.tmp 23)).trans ((kx1.out xs).2.2.2.2.2.2.2.2);clear hev hD;have hGL:=hG.ini hl;obtain⟨gq,hgq,hq0,hbq⟩:=hGL.get 1 rfl (done_of hdone 6 rfl);obtain⟨hdeps,hbd⟩:=hG.bd (done_of hdone 5 rfl);obtain⟨aq22,cq22,hxq22,_⟩:=Rd.of_own strE_len L0.out (hGL.get 0 rfl (hdeps _ (by simp)));have hall: ∀ e∈[fl 4,fl 6],e=true:=by simp [done_of hdone 6 rfl,hdeps (fl 4) (by simp)]
   exact outcome_store (.tmp 4) (.tmp 23) 136 rfl (e4.trans hgq) (e23.trans hbd) hbq (by kernel_rfl) rfl (by simp [hxq22,Value.oneCell']) (fun w' hB hBut=>hK _ _ trivial (hG.put hl (done_of hdone 5 rfl) (by simpa using hall) hgq hq0 hbq.lt hB hBut))
  clear kx1;intro xs wo hG hI;clear hI;have hbelo:=hG.bel;obtain⟨wao,bo,hGLo,hgoo,hbno,hblo,hbxo,hbuto⟩:=hG.fin rfl;clear hG;have q0o:=hGLo.get 0 rfl rfl;have q1o:=hGLo.get 1 rfl rfl;simp only [List.append_eq,List.cons_append,List.nil_append,setAll,List.setIfInBounds_toArray,List.set_cons_zero,List.set_cons_succ,Nat.zero_add,Nat.reduceAdd];have hbg:=H_ q1o;clear q1o;go_wp2_with fail
  go_meet
  case rel=>
   obtain⟨g,hg,_,hB⟩:=hbg.out;rw [hgoo] at hg;cases hg;exact⟨bo,xs 4,rfl,hbxo,hbno,by rw [L0.out];exact own_box q0o hB (by decide) hbuto,World.ownsRow_nil _ _ _ _,World.ownsRow_nil _ _ _ _,World.ownsRow_nil _ _ _ _,World.ownsRow_nil _ _ _ _,World.ownsRow_nil _ _ _ _,⟨rfl,fun k e h=>by simp at h⟩,hbelo⟩
 case rest=>
  obtain⟨bo,vS,rfl,hTS⟩:=hcut;replace hTS:=H_ hTS;have s7:=(hB1.out.low hTS.out.bel hlt.out.1).cell 7 rfl;go_wp2_with fail;clear s7;go_loopw [27] (fun iv wr=> ∃ (i:Nat) (v:Value),i≤nP∧iv= .int .i64 i∧Hid (TS M wn bo wr vS v (.slice none 0 0) (.slice none 0 0) (.slice none 0 0) (.slice none 0 0) i 0 0 0 0 [])) (fun iv _=>nP-(intOf iv).toNat)
  case atStart=>exact⟨0,_,Nat.zero_le _,rfl,hTS⟩
  case round=>
   clear hTS;obtain⟨i,v,hi,rfl,hTS⟩:=hrel;have hRr:=hlow.out _ hTS.out.bel;by_cases hin:i<nP
   ·have hinI:(i:Int)<(nP:Int):=by omega
    obtain⟨b,o,x1,x2,x3,rfl,hbs,hx0,f0,f1,f2⟩:=hRr.rP.trip hin;obtain⟨wa,ba,hwa,hbaE,hbwa,Bwa⟩:=box1 wr 99 [.int .i64 x1,.int .i64 x2,.int .i64 x3];obtain⟨q0,q1,q2⟩:=c_3 Bwa;have hRa:=H_ (hRr.below hbwa);have hTa:=H_ (hTS.out.below hbwa);have hNa:=H_ (hBn.out.low hTa.out.bel hlt.out.2.2.1);have lba:=Bwa.lt;clear hRr hTS hbwa Bwa;have hok:=List.all_eq_true.1 hwP.out _ (List.mem_of_getElem? hx0);unfold okP at hok;rw [Bool.and_eq_true] at hok;obtain⟨hk1,hk2⟩:=hok;simp only at hk1 hk2;rw [L0.out] at hk1 hk2;obtain⟨j1,j2⟩:=inB_iff.1 hk1;obtain⟨p,rfl⟩: ∃ p:Nat,x1=p:=⟨x1.toNat,by omega⟩
    obtain⟨j3,j4⟩:=inB_iff.1 hk2;obtain⟨q,rfl⟩: ∃ p:Nat,x2=p:=⟨x2.toNat,by omega⟩
    obtain⟨b0,o0,sp,e0,hb0,hsp,g0⟩:=hRa.out.r0.str (show p<n0 by omega);obtain⟨b0',o0',sq',e0',_,hsq,g1⟩:=hRa.out.r0.str (show q<n0 by omega);obtain⟨bx,ox,sn,rfl,hbx,hsn0,g2⟩:=hRa.out.r1.str (show i<n1 by have:=K1.out;omega);subst e0;cases e0';have hx:toldP M i=some ⟨sn,sp,sq',x3⟩:=by unfold toldP;rw [hx0];simp only;rw [strAt_of hsn0,strAt_of hsp,strAt_of hsq]
    have hi1:(i:Int)<(n1:Int):=by have:=K1.out;omega
    clear hk1 hk2 j1 j3 hx0 hsp hsq hsn0;go_wp2_with fail;go_upto_region 6 with fail;refine wp_region_late [0,0,0,0,0,0,0,0,0,0,0,0,0,0,0,0,0,0,0,0,0,0,2,2,2,2] (by kernel_rfl) (by kernel_rfl) ?_;intro C hC;simp only [pickK,Nat.reduceEqDiff, ↓reduceIte]
    repeat(go_big_quiet_step (first
     |(intro _;with_reducible rfl)
     |(intro hc;have m0:=(hTa.out.bx.below hc).cell 2 rfl;have m1:=(hNa.out.below hc).cell 1 rfl;have m2:=(hNa.out.below hc).cell 0 rfl;have m3:=c_ hc lba q0;have m4:=c_ hc lba q1;have m5:=c_ hc lba q2;have m6:=c_ hc hbx g2;have m7:=c_ hc hb0 g0;have m8:=c_ hc hb0 g1;simp only [m0,m1,m2,m3,m4,m5,m6,m7,m8,Result.andThen];exact⟨trivial,rfl⟩)))
    refine wpQuiet_nil ?_;clear hC;intro C' hC';refine wpQuiet_nil ?_;clear hC';intro wq hbq;have hTq:=H_ (hTa.out.below hbq);clear hwa hbaE hTa hRa hNa hbq;obtain⟨W1,W2,W3,g,cA,k1,k3,b2',runA,hT3⟩:=(hTq.out.stepP hx (fun j hj=>hallP.out j (by omega)) (by omega))
    replace hT3:=H_ hT3;have v5:=b2'.cell 2 rfl;have v6:=b2'.frozen 2;subst k1;have runA:(Builtin.append_ #[130,130] 130 #[v,.slice (some ⟨wq.heap.size,0,none⟩) 1 1]).run Tryz.prog (wq.alloc (.cells #[.string sn,.string sp,.string sq',.int .i64 x3] 171))= .ok (.slice (some ⟨g,0,none⟩) (i+1) cA) W2:=runA;clear b2';go_wp2_with (at_builtin;refine wpList_append_run ?P1 (.tmp 33) (.tmp 54) 130 ?P2 ?P3 ?P4 runA ?_)
    all_goals try rfl
    go_roundw
    case rel=>exact⟨i+1,_,by omega,by go_num,hT3⟩
    case measure=>simp [intOf];omega
   ·obtain rfl:nP=i:=by omega
    clear hRr;obtain⟨uP,hu⟩: ∃ q,q=v:=⟨_,rfl⟩
    subst hu;have s8:=(hB1.out.low hTS.out.bel hlt.out.1).cell 8 rfl;go_wp2_with fail;clear s8;go_loopw [61] (fun iv wr=> ∃ (i:Nat) (v:Value),i≤nD∧iv= .int .i64 i∧Hid (TS M wn bo wr vS uP v (.slice none 0 0) (.slice none 0 0) (.slice none 0 0) nP i 0 0 0 [])) (fun iv _=>nD-(intOf iv).toNat)
    case atStart=>exact⟨0,_,Nat.zero_le _,rfl,hTS⟩
    case round=>
     clear hTS;obtain⟨i,v,hi,rfl,hTS⟩:=hrel;have hRr:=hlow.out _ hTS.out.bel;by_cases hin:i<nD
     ·have hinI:(i:Int)<(nD:Int):=by omega
      obtain⟨b,o,⟨x1,x2,x3,x4,x5,x6⟩,rfl,hbs,hx0,hc⟩:=hRr.rD.get hin;have f0:=hc 0 _ rfl;have f1:=hc 1 _ rfl;have f2:=hc 2 _ rfl;have f3:=hc 3 _ rfl;have f4:=hc 4 _ rfl;have f5:=hc 5 _ rfl;simp only [Nat.add_zero] at f0;clear hc;obtain⟨wa,ba,hwa,hbaE,hbwa,Bwa⟩:=box1 wr 104 [.int .i64 x1,.int .i64 x2,.int .i64 x3,.int .i64 x4,.int .i64 x5,.int .i64 x6];obtain⟨q0,q1,q2,q3,q4,q5⟩:=c_6 Bwa;have hRa:=H_ (hRr.below hbwa);have hTa:=H_ (hTS.out.below hbwa);have hNa:=H_ (hBn.out.low hTa.out.bel hlt.out.2.2.1);have lba:=Bwa.lt;clear hRr hTS hbwa Bwa;have hok:=List.all_eq_true.1 hwD.out _ (List.mem_of_getElem? hx0);unfold okD at hok;rw [Bool.and_eq_true] at hok;obtain⟨hk1,hk2⟩:=hok;simp only at hk1 hk2;rw [L0.out] at hk1 hk2;obtain⟨j1,j2⟩:=inB_iff.1 hk1;obtain⟨p,rfl⟩: ∃ p:Nat,x1=p:=⟨x1.toNat,by omega⟩
      obtain⟨j3,j4⟩:=inB_iff.1 hk2;obtain⟨q,rfl⟩: ∃ p:Nat,x2=p:=⟨x2.toNat,by omega⟩
      obtain⟨b0,o0,sp,e0,hb0,hsp,g0⟩:=hRa.out.r0.str (show p<n0 by omega);obtain⟨b0',o0',sq',e0',_,hsq,g1⟩:=hRa.out.r0.str (show q<n0 by omega);obtain⟨bx,ox,sn,rfl,hbx,hsn0,g2⟩:=hRa.out.r2.str (show i<n2 by have:=K2.out;omega);subst e0;cases e0';have hx:toldD M i=some ⟨sn,sp,sq',x3,x4,x5,x6⟩:=by unfold toldD;rw [hx0];simp only;rw [strAt_of hsn0,strAt_of hsp,strAt_of hsq]
      have hi1:(i:Int)<(n2:Int):=by have:=K2.out;omega
      clear hk1 hk2 j1 j3 hx0 hsp hsq hsn0;go_wp2_with fail;go_upto_region 11 with fail;refine wp_region_late [0,0,0,0,0,0,0,0,0,0,0,0,0,0,0,0,0,0,0,0,0,0,0,0,2,2,2,2] (by kernel_rfl) (by kernel_rfl) ?_;intro C hC;simp only [pickK,Nat.reduceEqDiff, ↓reduceIte]
      repeat(go_big_quiet_step (first
       |(intro _;with_reducible rfl)
       |(intro hc;have m0:=(hTa.out.bx.below hc).cell 3 rfl;have m1:=(hNa.out.below hc).cell 2 rfl;have m2:=(hNa.out.below hc).cell 0 rfl;have m3:=c_ hc lba q0;have m4:=c_ hc lba q1;have m5:=c_ hc lba q2;have m6:=c_ hc lba q3;have m7:=c_ hc lba q4;have m8:=c_ hc lba q5;have m9:=c_ hc hbx g2;have m10:=c_ hc hb0 g0;have m11:=c_ hc hb0 g1;simp only [m0,m1,m2,m3,m4,m5,m6,m7,m8,m9,m10,m11,Result.andThen];exact⟨trivial,rfl⟩)))
      refine wpQuiet_nil ?_;clear hC;intro C' hC';refine wpQuiet_nil ?_;clear hC';intro wq hbq;have hTq:=H_ (hTa.out.below hbq);clear hwa hbaE hTa hRa hNa hbq;obtain⟨W1,W2,W3,g,cA,k1,k3,b2',runA,hT3⟩:=(hTq.out.stepD hx (fun j hj=>hallD.out j (by omega)) (by omega))
      replace hT3:=H_ hT3;have v5:=b2'.cell 3 rfl;have v6:=b2'.frozen 3;subst k1;have runA:(Builtin.append_ #[131,131] 131 #[v,.slice (some ⟨wq.heap.size,0,none⟩) 1 1]).run Tryz.prog (wq.alloc (.cells #[.string sn,.string sp,.string sq',.int .i64 x3,.int .i64 x4,.int .i64 x5,.int .i64 x6] 173))= .ok (.slice (some ⟨g,0,none⟩) (i+1) cA) W2:=runA;clear b2';go_wp2_with (at_builtin;refine wpList_append_run ?D1 (.tmp 67) (.tmp 90) 131 ?D2 ?D3 ?D4 runA ?_)
      all_goals try rfl
      go_roundw
      case rel=>exact⟨i+1,_,by omega,by go_num,hT3⟩
      case measure=>simp [intOf];omega
     ·obtain rfl:nD=i:=by omega
      clear hRr;obtain⟨uD,hu⟩: ∃ q,q=v:=⟨_,rfl⟩
      subst hu;have s9:=(hB1.out.low hTS.out.bel hlt.out.1).cell 9 rfl;go_wp2_with fail;clear s9;go_loopw [97] (fun iv wr=> ∃ (i:Nat) (v:Value) (L:List REl),i≤nR∧iv= .int .i64 i∧Hid (TS M wn bo wr vS uP uD v (.slice none 0 0) (.slice none 0 0) nP nD i 0 0 L)) (fun iv _=>nR-(intOf iv).toNat)
      case atStart=>exact⟨0,_,[],Nat.zero_le _,rfl,hTS⟩
      case round=>
       clear hTS;obtain⟨i,v,L,hi,rfl,hTS⟩:=hrel;have hRr:=hlow.out _ hTS.out.bel;by_cases hin:i<nR
       ·have hinI:(i:Int)<(nR:Int):=by omega
        obtain⟨b,o,r,rfl,hbs,hx0,⟨A1,m1,d1,f0,rs1,e11,e12⟩,⟨A2,m2,d2,f1,rs2,e21,e22⟩,⟨A3,m3,d3,f2,rs3,e31,e32⟩⟩:=hRr.rR.get hin;obtain⟨hl1,hl2,hl3⟩:=hfr.out r (List.mem_of_getElem? hx0);have hm1:m1≤100000:=by have:=rs1.len;omega
        have hm2:m2≤100000:=by have:=rs2.len;omega
        have hm3:m3≤100000:=by have:=rs3.len;omega
        have E1:=H_ rs1.len;have E2:=H_ rs2.len;have E3:=H_ rs3.len;clear hl1 hl2 hl3;obtain⟨wa,ba,hwa,hbaE,hbwa,Bwa⟩:=box1 wr 51 [.slice A1 m1 d1,.slice A2 m2 d2,.slice A3 m3 d3];obtain⟨q0,q1,q2⟩:=c_3 Bwa;have hRa:=H_ (hRr.below hbwa);have hTa:=H_ (hTS.out.below hbwa);have hNa:=H_ (hBn.out.low hTa.out.bel hlt.out.2.2.1);have lba:=Bwa.lt;have R1:=H_ (rs1.below hbwa);have R2:=H_ (rs2.below hbwa);have R3:=H_ (rs3.below hbwa);clear rs1 rs2 rs3;clear hRr hTS hbwa Bwa;have hok:=H_ (List.all_eq_true.1 hwR.out _ (List.mem_of_getElem? hx0));obtain⟨bx,ox,sn,rfl,hbx,hsn0,g2⟩:=hRa.out.r3.str (show i<n3 by have:=K3.out;omega);have hx:Hid (toldR M i=some ⟨sn,r.stops.map (strAt M.stops),r.rides,r.stays⟩):=by show _=_;unfold toldR;rw [hx0];simp only;rw [strAt_of hsn0]
        have hi1:(i:Int)<(n3:Int):=by have:=K3.out;omega
        have c1:=H_ (fun(w:World) (h:Below wa.heap.size wa w)=>allIS_any 135 #[.pointer (some ⟨bn,0,none⟩)] (enters_of Tryz.func135 (by kernel_rfl) rfl) (strAt M.stops) A1 m1 d1 r.stops w (R1.out.below h) (by omega) (fun W x hb hx=>by
         have hk:=List.all_eq_true.1 hok.out x hx;obtain⟨j1,j2⟩:=inB_iff.1 hk;exact ptold1_any bn 0 n0 c0 a0 M.stops x W (((hNa.out.below h).below hb).cell 0 rfl) (((hRa.out.r0).below h).below hb) j1 (by rw [L0.out] at j2;exact j2)))
        have c2:=H_ (fun(w:World) (h:Below wa.heap.size wa w)=>clNum_any A2 m2 d2 r.rides w (R2.out.below h) (by omega));have c3:=H_ (fun(w:World) (h:Below wa.heap.size wa w)=>clNum_any A3 m3 d3 r.stays w (R3.out.below h) (by omega));clear hx0 hsn0;go_wp2_with fail;go_upto_region 16 with fail;refine wp_region_lateM wa.heap.size [0,0,0,0,0,0,0,0,0,0,3,0,0,3,0,0,3,4,2,2,2,2] (by kernel_rfl) (by kernel_rfl) (Nat.le_refl _) ?_;intro C hC;simp only [pickK,pickT,Nat.reduceLeDiff,Nat.reduceEqDiff, ↓reduceIte]
        repeat(go_big_quiet_step (first
         |(intro _;with_reducible rfl)
         |(intro hc;have m0:=(hTa.out.bx.below hc).cell 4 rfl;have m1:=(hNa.out.below hc).cell 3 rfl;have m2:=c_ hc lba q0;have m3:=c_ hc lba q1;have m4:=c_ hc lba q2;have m5:=c_ hc hbx g2;simp only [m0,m1,m2,m3,m4,m5,Result.andThen];exact⟨trivial,rfl⟩)))
        refine wpQuiet_nil ?_;clear hC;intro C' hC';refine wpQuiet_nil ?_;clear hC';intro wq hbq;replace hbq:Below wa.heap.size wa wq:=by rw [hbq];exact⟨rfl,rfl,rfl,Nat.le_refl _,fun _ _=>rfl⟩
        have hbqH:=H_ hbq;have hba1:=H_ (hTa.out.bel.size);clear hbq hwa hbaE hok hRa hNa q0 q1 q2 g2;refine wpTail4_one (by decide) ?_;go_wp2_with fail;refine(c1.out wq hbqH.out).mono ?_;rintro e w5 ⟨v1,rfl,ow1,hb5⟩;have h5:=h_ hbqH hb5;obtain⟨D1,k1',e1,_⟩:=Rd.of_own strE_len (show(r.stops.map (strAt M.stops)).length =m1 by rw [List.length_map];exact E1.out) ow1;subst e1;have O1:=H_ ow1;clear hb5 ow1;go_wp2_with fail;refine⟨fun _=>h5.out,?_⟩;refine wpTail4_one (by decide) ?_;go_wp2_with fail;refine(c2.out w5 h5.out).mono ?_;rintro e w6 ⟨v2,rfl,ow2,hb6⟩;have h6:=h_ h5 hb6;obtain⟨D2,k2',e2,_⟩:=Rd.of_own num_len E2.out ow2;subst e2;have O2:=H_ ow2;have B6:=H_ hb6;clear hb6 ow2;go_wp2_with fail;refine⟨fun _=>h6.out,?_⟩;refine wpTail4_one (by decide) ?_;go_wp2_with fail;refine(c3.out w6 h6.out).mono ?_;rintro e w7 ⟨v3,rfl,ow3,hb7⟩;have h7:=h_ h6 hb7
        obtain⟨D3,k3',e3,_⟩:=Rd.of_own num_len E3.out ow3;subst e3;have O3:=H_ ow3;have B7:=H_ hb7;clear hb7 ow3;go_wp2_with fail;refine⟨fun _=>h7.out,?_⟩;refine wpTail4_quiet ?_;intro C' hC'
        repeat(go_big_quiet_step (first|(intro _;with_reducible rfl)))
        refine wpQuiet_nil ?_;clear hC';refine wpTail4_list _ _ _ (by simp) ?_;simp only [List.map_cons,List.map_nil];have hTq:=hTa.out.below h7.out
        have hxT:RowT w7 wn.heap.size ((sn,(D1,m1,k1'),(D2,m2,k2'),(D3,m3,k3')):REl) ⟨sn,r.stops.map (strAt M.stops),r.rides,r.stays⟩:=by
         have g5:=Nat.le_trans hba1.out h5.out.size;have g6:=Nat.le_trans hba1.out h6.out.size;have gq:=Nat.le_trans hba1.out hbqH.out.size;refine⟨rfl,?_,?_,?_⟩
         ·have:=own_base (own_below (own_below O1.out B6.out) B7.out) gq;show w7.ownsRow _ _ _ _ (r.stops.map (strAt M.stops)).length _;rw [List.length_map,E1.out];exact this
         ·have:=own_base (own_below O2.out B7.out) g5;show w7.ownsRow _ _ _ _ r.rides.length _;rw [E2.out];exact this
         ·have:=own_base O3.out g6;show w7.ownsRow _ _ _ _ r.stays.length _;rw [E3.out];exact this
        obtain⟨W1,W2,W3,g,cA,k1,k3,b2',runA,hT3⟩:=hTq.stepR _ _ hx.out hxT (by omega);replace hT3:=H_ hT3;have v5:=b2'.cell 4 rfl;have v6:=b2'.frozen 4;subst k1;have runA:(Builtin.append_ #[132,132] 132 #[v,.slice (some ⟨w7.heap.size,0,none⟩) 1 1]).run Tryz.prog (w7.alloc (.cells #[.string sn,.slice D1 m1 k1',.slice D2 m2 k2',.slice D3 m3 k3'] 177))= .ok (.slice (some ⟨g,0,none⟩) (i+1) cA) W2:=runA;clear b2' hTq hxT hTa;go_wp2_with (at_builtin;refine wpList_append_run ?R1 (.tmp 103) (.tmp 120) 132 ?R2 ?R3 ?R4 runA ?_)
        all_goals try rfl
        go_roundw
        case rel=>exact⟨i+1,_,_,by omega,by go_num,hT3⟩
        case measure=>simp [intOf];omega
       ·obtain rfl:nR=i:=by omega
        clear hRr;obtain⟨uR,hu⟩: ∃ q,q=v:=⟨_,rfl⟩
        subst hu;obtain⟨LR,hu⟩: ∃ q,q=L:=⟨_,rfl⟩
        subst hu;have s10:=(hB1.out.low hTS.out.bel hlt.out.1).cell 10 rfl;go_wp2_with fail;clear s10;go_loopw [127] (fun iv wr=> ∃ (i:Nat) (v:Value),i≤nT∧iv= .int .i64 i∧Hid (TS M wn bo wr vS uP uD uR v (.slice none 0 0) nP nD nR i 0 LR)) (fun iv _=>nT-(intOf iv).toNat)
        case atStart=>exact⟨0,_,Nat.zero_le _,rfl,hTS⟩
        case round=>
         clear hTS;obtain⟨i,v,hi,rfl,hTS⟩:=hrel;have hRr:=hlow.out _ hTS.out.bel;by_cases hin:i<nT
         ·have hinI:(i:Int)<(nT:Int):=by omega
          obtain⟨b,o,⟨x1,x2,x3,x4⟩,rfl,hbs,hx0,hc⟩:=hRr.rT.get hin;have f0:=hc 0 _ rfl;have f1:=hc 1 _ rfl;have f2:=hc 2 _ rfl;have f3:=hc 3 _ rfl;simp only [Nat.add_zero] at f0;clear hc;obtain⟨wa,ba,hwa,hbaE,hbwa,Bwa⟩:=box1 wr 53 [.int .i64 x1,.int .i64 x2,.int .i64 x3,.int .i64 x4];obtain⟨q0,q1,q2,q3⟩:=c_4 Bwa;have hRa:=H_ (hRr.below hbwa);have hTa:=H_ (hTS.out.below hbwa);have hNa:=H_ (hBn.out.low hTa.out.bel hlt.out.2.2.1);have lba:=Bwa.lt;clear hRr hTS hbwa Bwa;have hok:=List.all_eq_true.1 hwT.out _ (List.mem_of_getElem? hx0);unfold okT at hok;simp only at hok;rw [L3.out] at hok;obtain⟨j1,j2⟩:=inB_iff.1 hok;obtain⟨p,rfl⟩: ∃ p:Nat,x1=p:=⟨x1.toNat,by omega⟩
          obtain⟨b0,o0,sp,rfl,hb0,hsp,g0⟩:=hRa.out.r3.str (show p<n3 by omega);obtain⟨bx,ox,sn,rfl,hbx,hsn0,g2⟩:=hRa.out.r4.str (show i<n4 by have:=K4.out;omega);have hx:toldT M i=some ⟨sn,sp,x2,x3,x4⟩:=by unfold toldT;rw [hx0];simp only;rw [strAt_of hsn0,strAt_of hsp]
          have hi1:(i:Int)<(n4:Int):=by have:=K4.out;omega
          clear hok j1 hx0 hsp hsn0;go_wp2_with fail;go_upto_region 21 with fail;refine wp_region_late [0,0,0,0,0,0,0,0,0,0,0,0,0,0,0,0,0,0,0,0,2,2,2,2] (by kernel_rfl) (by kernel_rfl) ?_;intro C hC;simp only [pickK,Nat.reduceEqDiff, ↓reduceIte]
          repeat(go_big_quiet_step (first
           |(intro _;with_reducible rfl)
           |(intro hc;have m0:=(hTa.out.bx.below hc).cell 5 rfl;have m1:=(hNa.out.below hc).cell 4 rfl;have m2:=(hNa.out.below hc).cell 3 rfl;have m3:=c_ hc lba q0;have m4:=c_ hc lba q1;have m5:=c_ hc lba q2;have m6:=c_ hc lba q3;have m7:=c_ hc hbx g2;have m8:=c_ hc hb0 g0;simp only [m0,m1,m2,m3,m4,m5,m6,m7,m8,Result.andThen];exact⟨trivial,rfl⟩)))
          refine wpQuiet_nil ?_;clear hC;intro C' hC';refine wpQuiet_nil ?_;clear hC';intro wq hbq;have hTq:=H_ (hTa.out.below hbq);clear hwa hbaE hTa hRa hNa hbq;obtain⟨W1,W2,W3,g,cA,k1,k3,b2',runA,hT3⟩:=(hTq.out.stepT hx (fun j hj=>hallT.out j (by omega)) (by omega))
          replace hT3:=H_ hT3;have v5:=b2'.cell 5 rfl;have v6:=b2'.frozen 5;subst k1;have runA:(Builtin.append_ #[133,133] 133 #[v,.slice (some ⟨wq.heap.size,0,none⟩) 1 1]).run Tryz.prog (wq.alloc (.cells #[.string sn,.string sp,.int .i64 x2,.int .i64 x3,.int .i64 x4] 179))= .ok (.slice (some ⟨g,0,none⟩) (i+1) cA) W2:=runA;clear b2';go_wp2_with (at_builtin;refine wpList_append_run ?T1 (.tmp 133) (.tmp 152) 133 ?T2 ?T3 ?T4 runA ?_)
          all_goals try rfl
          go_roundw
          case rel=>exact⟨i+1,_,by omega,by go_num,hT3⟩
          case measure=>simp [intOf];omega
         ·obtain rfl:nT=i:=by omega
          clear hRr;obtain⟨uT,hu⟩: ∃ q,q=v:=⟨_,rfl⟩
          subst hu;have s11:=(hB1.out.low hTS.out.bel hlt.out.1).cell 11 rfl;go_wp2_with fail;clear s11;go_loopw [159] (fun iv wr=> ∃ (i:Nat) (v:Value),i≤nH∧iv= .int .i64 i∧Hid (TS M wn bo wr vS uP uD uR uT v nP nD nR nT i LR)) (fun iv _=>nH-(intOf iv).toNat)
          case atStart=>exact⟨0,_,Nat.zero_le _,rfl,hTS⟩
          case round=>
           clear hTS;obtain⟨i,v,hi,rfl,hTS⟩:=hrel;have hRr:=hlow.out _ hTS.out.bel;by_cases hin:i<nH
           ·have hinI:(i:Int)<(nH:Int):=by omega
            obtain⟨b,o,⟨x1,x2,x3,x4,x5⟩,rfl,hbs,hx0,hc⟩:=hRr.rH.get hin;have f0:=hc 0 _ rfl;have f1:=hc 1 _ rfl;have f2:=hc 2 _ rfl;have f3:=hc 3 _ rfl;have f4:=hc 4 _ rfl;simp only [Nat.add_zero] at f0;clear hc;obtain⟨wa,ba,hwa,hbaE,hbwa,Bwa⟩:=box1 wr 108 [.bool x1,.int .i64 x2,.int .i64 x3,.int .i64 x4,.int .i64 x5];obtain⟨q0,q1,q2,q3,q4⟩:=c_5 Bwa;have hRa:=H_ (hRr.below hbwa);have hTa:=H_ (hTS.out.below hbwa);have hNa:=H_ (hBn.out.low hTa.out.bel hlt.out.2.2.1);have lba:=Bwa.lt;clear hRr hTS hbwa Bwa;have hok:=List.all_eq_true.1 hwH.out _ (List.mem_of_getElem? hx0);unfold okH at hok;simp only at hok;rw [L0.out,L1.out] at hok;obtain⟨bx,ox,sn,rfl,hbx,hsn0,g2⟩:=hRa.out.r5.str (show i<n5 by have:=K5.out;omega);have hi1:(i:Int)<(n5:Int):=by have:=K5.out;omega
            cases x1 with
            |true=>
             simp only [if_true,if_false,Bool.false_eq_true] at hok;obtain⟨j1,j2⟩:=inB_iff.1 hok;obtain⟨p,rfl⟩: ∃ p:Nat,x2=p:=⟨x2.toNat,by omega⟩
             obtain⟨b0,o0,sp,rfl,hb0,hsp,g0⟩:=hRa.out.r0.str (show p<n0 by omega);have hx:toldH M i=some ⟨sn,sp,x3,x4,x5⟩:=by unfold toldH;rw [hx0];simp only [if_true,if_false,Bool.false_eq_true];rw [strAt_of hsn0,strAt_of hsp]
             have m0:=hNa.out.cell 0 rfl;have m1':=hNa.out.cell 1 rfl;clear hok j1 hx0 hsp hsn0;go_wp2_with fail;go_upto_region 29 with fail;refine wp_region_late [0,0,0,0,0,0,0,0,0,0,0,0,0,0,0,2,2,2,2] (by kernel_rfl) (by kernel_rfl) ?_;intro C hC;simp only [pickK,Nat.reduceEqDiff, ↓reduceIte]
             repeat(go_big_quiet_step (first
              |(intro _;with_reducible rfl)
              |(intro hc;have m0:=(hTa.out.bx.below hc).cell 6 rfl;have m1:=(hNa.out.below hc).cell 5 rfl;have m2:=c_ hc lba q0;have m3:=c_ hc lba q1;have m4:=c_ hc lba q2;have m5:=c_ hc lba q3;have m6:=c_ hc lba q4;have m7:=c_ hc hbx g2;have m8:=c_ hc hb0 g0;simp only [m0,m1,m2,m3,m4,m5,m6,m7,m8,Result.andThen];exact⟨trivial,rfl⟩)))
             refine wpQuiet_nil ?_;clear hC;intro C' hC';refine wpQuiet_nil ?_;clear hC';intro wq hbq;have hTq:=H_ (hTa.out.below hbq);clear hwa hbaE hTa hRa hNa hbq m0 m1';obtain⟨W1,W2,W3,g,cA,k1,k3,b2',runA,hT3⟩:=(hTq.out.stepH hx (fun j hj=>hallH.out j (by omega)) (by omega))
             replace hT3:=H_ hT3;have v5:=b2'.cell 6 rfl;have v6:=b2'.frozen 6;subst k1;have runA:(Builtin.append_ #[134,134] 134 #[v,.slice (some ⟨wq.heap.size,0,none⟩) 1 1]).run Tryz.prog (wq.alloc (.cells #[.string sn,.string sp,.int .i64 x3,.int .i64 x4,.int .i64 x5] 181))= .ok (.slice (some ⟨g,0,none⟩) (i+1) cA) W2:=runA;clear b2';go_wp2_with (at_builtin;refine wpList_append_run ?J1 (.tmp 171) (.tmp 185) 134 ?J2 ?J3 ?J4 runA ?_)
             all_goals try rfl
             go_roundw
             case rel=>exact⟨i+1,_,by omega,by go_num,hT3⟩
             case measure=>simp [intOf];omega
            |false=>
             simp only [if_true,if_false,Bool.false_eq_true] at hok;obtain⟨j1,j2⟩:=inB_iff.1 hok;obtain⟨p,rfl⟩: ∃ p:Nat,x2=p:=⟨x2.toNat,by omega⟩
             obtain⟨b0,o0,sp,rfl,hb0,hsp,g0⟩:=hRa.out.r1.str (show p<n1 by omega);have hx:toldH M i=some ⟨sn,sp,x3,x4,x5⟩:=by unfold toldH;rw [hx0];simp only [if_true,if_false,Bool.false_eq_true];rw [strAt_of hsn0,strAt_of hsp]
             have m0:=hNa.out.cell 0 rfl;have m1':=hNa.out.cell 1 rfl;clear hok j1 hx0 hsp hsn0;go_wp2_with fail;go_upto_region 29 with fail;refine wp_region_late [0,0,0,0,0,0,0,0,0,0,0,0,0,0,0,2,2,2,2] (by kernel_rfl) (by kernel_rfl) ?_;intro C hC;simp only [pickK,Nat.reduceEqDiff, ↓reduceIte]
             repeat(go_big_quiet_step (first
              |(intro _;with_reducible rfl)
              |(intro hc;have m0:=(hTa.out.bx.below hc).cell 6 rfl;have m1:=(hNa.out.below hc).cell 5 rfl;have m2:=c_ hc lba q0;have m3:=c_ hc lba q1;have m4:=c_ hc lba q2;have m5:=c_ hc lba q3;have m6:=c_ hc lba q4;have m7:=c_ hc hbx g2;have m8:=c_ hc hb0 g0;simp only [m0,m1,m2,m3,m4,m5,m6,m7,m8,Result.andThen];exact⟨trivial,rfl⟩)))
             refine wpQuiet_nil ?_;clear hC;intro C' hC';refine wpQuiet_nil ?_;clear hC';intro wq hbq;have hTq:=H_ (hTa.out.below hbq);clear hwa hbaE hTa hRa hNa hbq m0 m1';obtain⟨W1,W2,W3,g,cA,k1,k3,b2',runA,hT3⟩:=(hTq.out.stepH hx (fun j hj=>hallH.out j (by omega)) (by omega))
             replace hT3:=H_ hT3;have v5:=b2'.cell 6 rfl;have v6:=b2'.frozen 6;subst k1;have runA:(Builtin.append_ #[134,134] 134 #[v,.slice (some ⟨wq.heap.size,0,none⟩) 1 1]).run Tryz.prog (wq.alloc (.cells #[.string sn,.string sp,.int .i64 x3,.int .i64 x4,.int .i64 x5] 181))= .ok (.slice (some ⟨g,0,none⟩) (i+1) cA) W2:=runA;clear b2';go_wp2_with (at_builtin;refine wpList_append_run ?K1 (.tmp 171) (.tmp 185) 134 ?K2 ?K3 ?K4 runA ?_)
             all_goals try rfl
             go_roundw
             case rel=>exact⟨i+1,_,by omega,by go_num,hT3⟩
             case measure=>simp [intOf];omega
           ·obtain rfl:nH=i:=by omega
            clear hRr;obtain⟨uH,hu⟩: ∃ q,q=v:=⟨_,rfl⟩
            subst hu;have lP2:(upTo2 (toldP M) nP).length =nP:=upTo2_len hallP.out nP (Nat.le_refl _);have lD2:(upTo2 (toldD M) nD).length =nD:=upTo2_len hallD.out nD (Nat.le_refl _);have lT2:(upTo2 (toldT M) nT).length =nT:=upTo2_len hallT.out nT (Nat.le_refl _);have lH2:(upTo2 (toldH M) nH).length =nH:=upTo2_len hallH.out nH (Nat.le_refl _);have h:=hTS.out;obtain⟨AS,xS,eS,_⟩:=Rd.of_own strE_len rfl h.oS;obtain⟨AP,xP,eP,_⟩:=Rd.of_own spathE_len lP2 h.oP;obtain⟨AD,xD,eD,_⟩:=Rd.of_own sdoorE_len lD2 h.oD;obtain⟨AR,xR,eR,_⟩:=Rd.of_own relE_len h.tR.len h.oR;obtain⟨AT,xT,eT,_⟩:=Rd.of_own stripE_len lT2 h.oT;obtain⟨AH,xH,eH,_⟩:=Rd.of_own shazE_len lH2 h.oH;subst eS eP eD eR eT eH;have hBq:=hB2.out.low h.bel hlt.out.2.1;obtain⟨hBF,hbF⟩:=hBq.row [.int .i64 M.hz,.slice AS M.stops.length xS,.slice AP nP xP,.slice AD nD xD,.slice AR nR xR,.slice AT nT xT,.slice AH nH xH]
            obtain⟨wF,hwF⟩: ∃ q,wr.setRow b2 (List.toArray [.int .i64 M.hz,.slice AS M.stops.length xS,.slice AP nP xP,.slice AD nD xD,.slice AR nR xR,.slice AT nT xT,.slice AH nH xH])=q:=⟨_,rfl⟩
            rw [hwF] at hBF hbF
            have hfin:RS wF (toldS M) ⟨AS,AP,AD,AR,AT,AH,M.stops.length,nP,nD,nR,nT,nH,xS,xP,xD,xR,xT,xH⟩:=by
             refine⟨rd_own strE_len rfl (own_box h.oS hBq (by decide) hbF),?_,?_,?_,?_,?_⟩
             ·show Rd _ _ _ _ _ (upTo2 (toldP M) M.paths.length);rw [LP.out];exact rd_own spathE_len lP2 (own_box h.oP hBq (by decide) hbF)
             ·show Rd _ _ _ _ _ (upTo2 (toldD M) M.doors.length);rw [LD.out];exact rd_own sdoorE_len lD2 (own_box h.oD hBq (by decide) hbF)
             ·show RSRoutes _ _ _ (upTo2 (toldR M) M.routes.length);rw [LR'.out];exact(h.tR.up (fun _ _ _ _ _ _ he _ h=>own_box h hBq (by rcases he with rfl|rfl<;>decide) hbF)).done (rd_own relE_len h.tR.len (own_box h.oR hBq (by decide) hbF)) hallR.out
             ·show Rd _ _ _ _ _ (upTo2 (toldT M) M.trips.length);rw [LT.out];exact rd_own stripE_len lT2 (own_box h.oT hBq (by decide) hbF)
             ·show Rd _ _ _ _ _ (upTo2 (toldH M) M.hazs.length);rw [LH.out];exact rd_own shazE_len lH2 (own_box h.oH hBq (by decide) hbF)
            have h0:=b_ hbN h.bel;have hbelF:=H_ (h0.trans (hbF.below h0.size (m_ hlt.out.2.2.2)));replace hfin:=H_ hfin;replace hBq:=H_ hBq;replace hBF:=H_ hBF;have hbx:=H_ h.bx;clear hbF lP2 lD2 lT2 lH2 h h0 hTS;go_upto_region 31 with fail;refine wp_region_lit ?_;refine wpList_load_bx (.tmp 4) 136 rfl rfl rfl hbx.out (by kernel_rfl) (by kernel_rfl) ?_;refine wpList_store_bx (.tmp 2) (.tmp 189) 136 rfl rfl rfl rfl hBq.out (by kernel_rfl) rfl rfl hwF ?_;refine wpList_nil ?_;clear hwF hbx;rename_i hKx;refine hKx _ _ (wp_ret ?_);refine bodyPost_bx (s:=2) (t:=136) rfl rfl hBF.out (by kernel_rfl) (by kernel_rfl) rfl ?_;exact⟨⟨AS,AP,AD,AR,AT,AH,M.stops.length,nP,nD,nR,nT,nH,xS,xP,xD,xR,xT,xH⟩,by simp only [sVal,toldS],hfin.out,hbelF.out⟩
