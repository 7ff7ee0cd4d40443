/- Merged. -/
import Derived.Test.YtechdefolfboeaaGreatDoorPo17
import Derived.Test.YtechdefolfboeaaGreatDoorPo43
import Derived.Test.YtechdefolfboeaaGreatDoorPo46
set_option linter.unusedVariables false
set_option linter.unusedSimpArgs false
set_option maxHeartbeats 4000000
namespace Go.Proofs.YtechdefolfboeaaGreatDoor
open Go.RowKit B
set_option maxRecDepth 100000 in
theorem rnumbered_any (X:SheetP) (V:SV) (we:World) (hr:RS we X V) (hf:FewS X):Calls Tryz.prog 144 #[sVal X V] we (RetNum X we):=by
 obtain⟨a0,aP,aD,aR,aT,aH,n0,nP,nD,nR,nT,nH,c0,cP,cD,cR,cT,cH⟩:=V;have LP:Hid (X.paths.length=nP):=hr.rP.len;have LD:Hid (X.doors.length=nD):=hr.rD.len;have LR:Hid (X.routes.length=nR):=hr.rR.len;have LT:Hid (X.trips.length=nT):=hr.rT.len;have LH:Hid (X.hazs.length=nH):=hr.rH.len;have L0:Hid (X.stops.length=n0):=hr.r0.len;have m0:n0≤100000:=by have:=hf.s0;have:=L0.out;omega
 have mP:nP≤100000:=by have:=hf.sP;have:=LP.out;omega
 have mD:nD≤100000:=by have:=hf.sD;have:=LD.out;omega
 have mR:nR≤100000:=by have:=hf.sR;have:=LR.out;omega
 have mT:nT≤100000:=by have:=hf.sT;have:=LT.out;omega
 have mH:nH≤100000:=by have:=hf.sH;have:=LH.out;omega
 have hfr:=H_ hf.sr;have hfl:=H_ hf;simp only [sVal];have hb1:=below_alloc we #[.int .i64 X.hz,.slice a0 n0 c0,.slice aP nP cP,.slice aD nD cD,.slice aR nR cR,.slice aT nT cT,.slice aH nH cH] 136;have B1:=Bx.new we 136 [.int .i64 X.hz,.slice a0 n0 c0,.slice aP nP cP,.slice aD nD cD,.slice aR nR cR,.slice aT nT cT,.slice aH nH cH];obtain⟨w1,hw1⟩: ∃ q,we.alloc (.cells #[.int .i64 X.hz,.slice a0 n0 c0,.slice aP nP cP,.slice aD nD cD,.slice aR nR cR,.slice aT nT cT,.slice aH nH cH] 136)=q:=⟨_,rfl⟩
 rw [hw1] at hb1;change Bx (we.alloc (.cells #[.int .i64 X.hz,.slice a0 n0 c0,.slice aP nP cP,.slice aD nD cD,.slice aR nR cR,.slice aT nT cT,.slice aH nH cH] 136)) _ _ _ at B1;rw [hw1] at B1;have hbq0:=below_alloc w1 #[.int .i64 0,.slice none 0 0,.slice none 0 0,.slice none 0 0,.slice none 0 0,.slice none 0 0,.slice none 0 0,.slice none 0 0,.slice none 0 0,.slice none 0 0,.slice none 0 0,.slice none 0 0] 31;have Bq:=Bx.new w1 31 [.int .i64 0,.slice none 0 0,.slice none 0 0,.slice none 0 0,.slice none 0 0,.slice none 0 0,.slice none 0 0,.slice none 0 0,.slice none 0 0,.slice none 0 0,.slice none 0 0,.slice none 0 0];obtain⟨w2,hw2⟩: ∃ q,w1.alloc (.cells #[.int .i64 0,.slice none 0 0,.slice none 0 0,.slice none 0 0,.slice none 0 0,.slice none 0 0,.slice none 0 0,.slice none 0 0,.slice none 0 0,.slice none 0 0,.slice none 0 0,.slice none 0 0] 31)=q:=⟨_,rfl⟩
 rw [hw2] at hbq0;change Bx (w1.alloc (.cells #[.int .i64 0,.slice none 0 0,.slice none 0 0,.slice none 0 0,.slice none 0 0,.slice none 0 0,.slice none 0 0,.slice none 0 0,.slice none 0 0,.slice none 0 0,.slice none 0 0,.slice none 0 0] 31)) _ _ _ at Bq;rw [hw2] at Bq;have B1':=B1.below hbq0;obtain⟨bn,hbn⟩: ∃ q,we.heap.size=q:=⟨_,rfl⟩
 obtain⟨bq,hq1⟩: ∃ q,bn+1=q:=⟨_,rfl⟩
 have hbqE:w1.heap.size=bq:=by rw [←hq1,←hbn,←hw1];simp
 rw [hbn] at B1';rw [hbqE] at Bq;have hbeq:Hid (we.heap.size≤bq):=by have:=hb1.size;show _≤_;omega
 have hup:Hid (∀ U,Below w2.heap.size w2 U→Below we.heap.size we U):=fun U hU=>u_ hb1 (hbq0.trans (hU.mono hbq0.size));have hR:=(hr.below hb1).below hbq0;have hRS:=H_ hR;have hr0:Hid (Rd w2 1 strE a0 n0 X.stops):=hR.r0;have hrP:Hid (Rd w2 4 spathE aP nP X.paths):=hR.rP;have hrD:Hid (Rd w2 7 sdoorE aD nD X.doors):=hR.rD;have hrR:Hid (RSRoutes w2 aR nR X.routes):=hR.rR;have hrT:Hid (Rd w2 5 stripE aT nT X.trips):=hR.rT;have hrH:Hid (Rd w2 5 shazE aH nH X.hazs):=hR.rH;have zbn:=B1'.lt;have hbqlt:Hid (bq<w2.heap.size):=Bq.lt;obtain⟨y0,y1,y2,y3,y4,y5,y6⟩:=c_7 B1';have B1:=H_ B1';have Bq:=H_ Bq;rename_i b1X b2X;clear b1X b2X hr hf hb1 hbq0 B1' hR;go_enter Tryz.func144,Tryz.ntmps144;go_wp2_with fail;clear hw1 hw2 hbn hq1 hbqE;go_upto_region 1 with fail
 refine wp_region_ghost (fun fl x w=>GS w2 [(fl 3,x 3,KNamed X),(fl 5,x 5,KBox w2.heap.size 31 [.int .i64 0,.slice none 0 0,.slice none 0 0,.slice none 0 0,.slice none 0 0,.slice none 0 0,.slice none 0 0,.slice none 0 0,.slice none 0 0,.slice none 0 0,.slice none 0 0,.slice none 0 0])] [] [fl 3] (fl 4) (x 4) (x 5) 31 (Value.int .i64 X.hz::(flatV (x 3)++[.slice none 0 0,.slice none 0 0,.slice none 0 0,.slice none 0 0,.slice none 0 0])) (fl 6) w) (by kernel_rfl) (by kernel_rfl) (by kernel_rfl) (by kernel_rfl) (by kernel_rfl) ?_ ?_
 ·intro x0;refine GS.start ?_ ?_ ?_ rfl rfl
  ·intro e he;simp only [List.mem_cons,List.not_mem_nil,or_false] at he;rcases he with rfl|rfl<;>first|exact KNamed.mono _|exact KNil.mono _ _ _|exact KOwn.mono _ _ _ _ _|exact KBox.mono _ _ _
  ·intro e he;simp only [List.mem_cons,List.not_mem_nil,or_false] at he;rcases he with rfl|rfl<;>rfl
  ·intro e he;cases he
 intro base O hbase hO;have kx1:Hid (∀ xs,evX base O xs (.tmp 1)= .pointer (some ⟨bn,0,none⟩)∧evX base O xs (.tmp 3)=xs 5∧evX base O xs (.tmp 12)=xs 0∧evX base O xs (.tmp 13)=xs 1∧evX base O xs (.tmp 14)=xs 2∧evX base O xs (.tmp 15)=xs 3∧evX base O xs (.tmp 16)=xs 4):=fun xs=>by rw [hbase,hO];exact⟨rfl,rfl,rfl,rfl,rfl,rfl,rfl⟩
 clear hbase hO;apply gd_ (n:=0);rfl
 ·intro fl xs w ev hG hD hl hdone hev ef K hK;have e1:=(hev (.tmp 1)).trans ((kx1.out xs).1);clear hev hD;go_simp;exact hK _ _ rfl hG
 apply gd_ (n:=1);rfl
 ·intro fl xs w ev hG hD hl hdone hev ef K hK;have e12:=(hev (.tmp 12)).trans ((kx1.out xs).2.2.1);have d0:=hD.at_ 0 rfl rfl;replace e12:=e12.trans d0;clear hev hD;have m0:=c_ hG.bel zbn y0;go_simp;exact hK _ _ rfl hG
 apply gd_ (n:=2);rfl
 ·intro fl xs w ev hG hD hl hdone hev ef K hK;have e1:=(hev (.tmp 1)).trans ((kx1.out xs).1);clear hev hD;have m0:=c_ hG.bel zbn y0;have m1:=c_ hG.bel zbn y1;have m2:=c_ hG.bel zbn y2;have m3:=c_ hG.bel zbn y3;have m4:=c_ hG.bel zbn y4;have m5:=c_ hG.bel zbn y5;have m6:=c_ hG.bel zbn y6;go_simp;exact hK _ _ rfl hG
 refine ga_ (n:=3) (fun _=>True) ?_ ?_
 ·intro fl xs w ev hG hD hl hdone hev ef K hK;have e14:=(hev (.tmp 14)).trans ((kx1.out xs).2.2.2.2.1);have d2:=hD.at_ 2 rfl rfl;replace e14:=e14.trans d2;clear hev hD;go_simp;refine(named_any X ⟨a0,aP,aD,aR,aT,aH,n0,nP,nD,nR,nT,nH,c0,cP,cD,cR,cT,cH⟩ w (hRS.out.below hG.bel) hfl.out).mono ?_;rintro e w'' ⟨b0,b1,b2,b3,b4,b5,k0,k1,k2,k3,k4,k5,rfl,h0,h1,h2,h3,h4,h5,hb⟩;exact⟨_,rfl,hK _ _ trivial (hG.step 0 rfl hl (by simp) hb ⟨b0,b1,b2,b3,b4,b5,k0,k1,k2,k3,k4,k5,rfl,h0,h1,h2,h3,h4,h5⟩ im_nil)⟩
 refine ga_ (n:=4) (fun _=>True) ?_ ?_
 ·intro fl xs w ev hG hD hl hdone hev ef K hK;have e13:=(hev (.tmp 13)).trans ((kx1.out xs).2.2.2.1);have d1:=hD.at_ 1 rfl rfl;replace e13:=e13.trans d1;have e15:=(hev (.tmp 15)).trans ((kx1.out xs).2.2.2.2.2.1);clear hev hD;obtain⟨wz,hkz⟩:=hG.wit 0 rfl (done_of hdone 3 rfl);obtain⟨b0,b1,b2,b3,b4,b5,k0,k1,k2,k3,k4,k5,hxq,_⟩:=hkz;have hfin:=hG.built (xb':= .agg (List.toArray (Value.int .i64 X.hz::(flatV (xs 3)++[.slice none 0 0,.slice none 0 0,.slice none 0 0,.slice none 0 0,.slice none 0 0])))) hl (by simp [done_of hdone 3 rfl]) rfl;rw [hxq] at e15
  have hv:(Value.agg #[.int .i64 X.hz,.slice b0 X.stops.length k0,.slice b1 X.paths.length k1,.slice b2 X.doors.length k2,.slice b3 X.routes.length k3,.slice b4 X.trips.length k4,.slice b5 X.hazs.length k5,.slice none 0 0,.slice none 0 0,.slice none 0 0,.slice none 0 0,.slice none 0 0])= .agg (List.toArray (Value.int .i64 X.hz::(flatV (xs 3)++[.slice none 0 0,.slice none 0 0,.slice none 0 0,.slice none 0 0,.slice none 0 0]))):=by rw [hxq];rfl
  go_simp;exact(congrArg (fun q=>K q w) hv).mpr (hK _ _ trivial hfin)
 refine ga_ (n:=5) (fun _=>True) ?_ ?_
 ·intro fl xs w ev hG hD hl hdone hev ef K hK;clear hev hD;have hfin:=hG.bel.size;go_simp;exact hK _ _ trivial (hG.stepO 1 rfl hl (below_alloc _ _ _) ⟨_,rfl,hfin,Bx.new w _ _⟩ im_nil)
 refine ga_ (n:=6) (fun _=>True) ?_ ?_
 ·intro fl xs w ev hG hD hl hdone hev ef K hK;have e3:=(hev (.tmp 3)).trans ((kx1.out xs).2.1);have e16:=(hev (.tmp 16)).trans ((kx1.out xs).2.2.2.2.2.2);clear hev hD;have hGL:=hG.ini hl;obtain⟨gq,hgq,hq0,hbq⟩:=hGL.get 1 rfl (done_of hdone 5 rfl);obtain⟨hdeps,hbd⟩:=hG.bd (done_of hdone 4 rfl);obtain⟨b0,b1,b2,b3,b4,b5,k0,k1,k2,k3,k4,k5,hxq,_⟩:=hGL.get 0 rfl (hdeps _ (by simp));have hall: ∀ e∈[fl 3,fl 5],e=true:=by simp [done_of hdone 5 rfl,hdeps (fl 3) (by simp)]
  have hlen:(Value.int .i64 X.hz::(flatV (xs 3)++[.slice none 0 0,.slice none 0 0,.slice none 0 0,.slice none 0 0,.slice none 0 0])).length =12:=by rw [hxq];rfl
  exact outcome_store (.tmp 3) (.tmp 16) 31 rfl (e3.trans hgq) (e16.trans hbd) hbq (by rw [hlen];kernel_rfl) (by rw [hlen];rfl) (by simp [hxq,flatV,Value.oneCell']) (fun w' hB hBut=>hK _ _ trivial (hG.put hl (done_of hdone 4 rfl) (by simpa using hall) hgq hq0 hbq.lt hB hBut))
 clear kx1;intro xs wo hG hI;clear hI;have hbelo:=hG.bel;obtain⟨wao,bo,hGLo,hgoo,hbno,hblo,hbxo,hbuto⟩:=hG.fin rfl;clear hG;have q0o:=hGLo.get 0 rfl rfl;have q1o:=hGLo.get 1 rfl rfl;simp only [List.append_eq,List.cons_append,List.nil_append,setAll,List.setIfInBounds_toArray,List.set_cons_zero,List.set_cons_succ,Nat.zero_add,Nat.reduceAdd];obtain⟨bz,hbz,_,hBz⟩:=q1o;rw [hgoo] at hbz;cases hbz;obtain⟨A0,A1,A2,A3,A4,A5,x0,x1,x2,x3,x4,x5,hvq,r0,r1,r2,r3,r4,r5⟩:=q0o;rw [L0.out] at r0 hvq;rw [LP.out] at r1 hvq;rw [LD.out] at r2 hvq;rw [LR.out] at r3 hvq;rw [LT.out] at r4 hvq;rw [LH.out] at r5 hvq;rw [hvq] at hbxo;have hbxo:Bx wo bo 31 [.int .i64 X.hz,.slice A0 n0 x0,.slice A1 nP x1,.slice A2 nD x2,.slice A3 nR x3,.slice A4 nT x4,.slice A5 nH x5,.slice none 0 0,.slice none 0 0,.slice none 0 0,.slice none 0 0,.slice none 0 0]:=hbxo
 have hzs: ∀ v∈([.int .i64 0,.slice none 0 0,.slice none 0 0,.slice none 0 0,.slice none 0 0,.slice none 0 0,.slice none 0 0,.slice none 0 0,.slice none 0 0,.slice none 0 0,.slice none 0 0,.slice none 0 0]:List Value), ∀ s,v≠ .string s:=by intro v hv s;simp at hv;rcases hv with rfl|rfl<;>simp
 have r0:=r0.keep_box hBz hzs hbuto;have r1:=r1.keep_box hBz hzs hbuto;have r2:=r2.keep_box hBz hzs hbuto;have r3:=r3.keep_box hBz hzs hbuto;have r4:=r4.keep_box hBz hzs hbuto;have r5:=r5.keep_box hBz hzs hbuto;obtain⟨wi0,hwi0⟩: ∃ q,q=wo:=⟨_,rfl⟩
 subst hwi0;have hbx:Hid (Bx wi0 bo 31 [.int .i64 X.hz,.slice A0 n0 x0,.slice A1 nP x1,.slice A2 nD x2,.slice A3 nR x3,.slice A4 nT x4,.slice A5 nH x5,.slice none 0 0,.slice none 0 0,.slice none 0 0,.slice none 0 0,.slice none 0 0]):=hbxo
 have hNN:Hid (∀ U,But wi0 U [bo]→Rd U 1 strE A0 n0 X.stops∧Rd U 1 strE A1 nP (X.paths.map (·.name))∧Rd U 1 strE A2 nD (X.doors.map (·.name))∧Rd U 1 strE A3 nR (X.routes.map (·.name))∧Rd U 1 strE A4 nT (X.trips.map (·.name))∧Rd U 1 strE A5 nH (X.hazs.map (·.name))):=fun U hU=>by
  have hvs: ∀ v∈([.int .i64 X.hz,.slice A0 n0 x0,.slice A1 nP x1,.slice A2 nD x2,.slice A3 nR x3,.slice A4 nT x4,.slice A5 nH x5,.slice none 0 0,.slice none 0 0,.slice none 0 0,.slice none 0 0,.slice none 0 0]:List Value), ∀ s,v≠ .string s:=by intro v hv s;simp at hv;rcases hv with rfl|rfl|rfl|rfl|rfl|rfl|rfl|rfl<;>simp
  exact⟨r0.keep_box hbxo hvs hU,r1.keep_box hbxo hvs hU,r2.keep_box hbxo hvs hU,r3.keep_box hbxo hvs hU,r4.keep_box hbxo hvs hU,r5.keep_box hbxo hvs hU⟩
 have hbol:Hid (bo<wi0.heap.size):=hbxo.lt;have hlow:Hid (∀ U,But wi0 U [bo]→Below w2.heap.size w2 U):=fun U hU=>hbelo.trans (hU.below hbelo.size (m_ hbno));have hQQ:Hid (∀ U,But wi0 U [bo]→Bx U bq 31 [.int .i64 0,.slice none 0 0,.slice none 0 0,.slice none 0 0,.slice none 0 0,.slice none 0 0,.slice none 0 0,.slice none 0 0,.slice none 0 0,.slice none 0 0,.slice none 0 0,.slice none 0 0]):=fun U hU=>Bq.out.below (hlow.out U hU);have hwi:Hid (But wi0 wi0 [bo]):=But.refl _ _;rw [hgoo];clear hbelo hGLo hgoo hbno hblo hbxo hbuto hBz hvq hzs r0 r1 r2 r3 r4 r5 zbn y0 y1 y2 y3 y4 y5 y6;go_wp2_with fail
 go_loopw [4] (fun iv wr=> ∃ (i:Nat) (u:Value),i≤nP∧iv= .int .i64 i∧Hid (Bx wr bo 31 [.int .i64 X.hz,.slice A0 n0 x0,.slice A1 nP x1,.slice A2 nD x2,.slice A3 nR x3,.slice A4 nT x4,.slice A5 nH x5,u,.slice none 0 0,.slice none 0 0,.slice none 0 0,.slice none 0 0])∧Hid (wr.ownsRow wi0.heap.size 99 3 u i (((X.paths.take i).map (numP X)).flatMap tripE))∧Hid (But wi0 wr [bo])) (fun iv _=>nP-(intOf iv).toNat)
 case atStart=>exact⟨0,.slice none 0 0,Nat.zero_le _,rfl,hbx,World.ownsRow_nil _ _ _ _,But.refl _ _⟩
 case round=>
  obtain⟨i,u,hi,rfl,hbxi,own,hbut⟩:=hrel;have hlowi:=hlow.out _ (hwi.out.trans hbut.out);have y0:=(B1.out.below hlowi).cell 2 rfl;by_cases hin:i<nP
  ·have hinI:(i:Int)<(nP:Int):=by omega
   obtain⟨b,o,⟨q0,q1,q2,q3⟩,rfl,hbs,hx,hc0⟩:=hrP.out.get hin;have f0:=hc0 0 _ rfl;have f1:=hc0 1 _ rfl;have f2:=hc0 2 _ rfl;have f3:=hc0 3 _ rfl;simp only [Nat.add_zero] at f0;clear hc0;have hsn:(X.paths.take (i+1)).map (numP X)=(X.paths.take i).map (numP X)++[numP X ⟨q0,q1,q2,q3⟩]:=by rw [take_at hx,List.map_append,List.map_singleton]
   have hlen:((X.paths.take i).map (numP X)).length =i:=by rw [List.length_map,List.length_take,LP.out];omega
   clear hx;go_wp2_with fail;go_upto_region 5 with fail;refine wp_region_late [0,0,0,0,0,0,0,0,0,0,0,0,0,0,0,0,0,0,0,0,0,0,0,0,0,0,0,2,2,2,2] (by kernel_rfl) (by kernel_rfl) ?_;intro C hC;simp only [pickK,Nat.reduceEqDiff, ↓reduceIte]
   repeat(go_big_quiet_step (first
    |(intro _;with_reducible rfl)
    |(intro hc;have hR:=hwi.out.trans (hbut.out.trans (But.of_below hc _));have hbw:=hlow.out _ hR;have m0:=(hbxi.out.below hc).cell 7 rfl;have m1:=(B1.out.below hbw).cell 1 rfl;have m2:=(B1.out.below hbw).cell 2 rfl;have m3:=c_ hbw hbs f1;have m4:=c_ hbw hbs f2;have m5:=c_ hbw hbs f3;simp only [m0,m1,m2,m3,m4,m5,Result.andThen];exact⟨trivial,rfl⟩)
    |(intro hc;with_reducible refine(place_any a0 n0 c0 X.stops _ _ (hr0.out.below (hlow.out _ (hwi.out.trans (hbut.out.trans (But.of_below hc _))))) (by omega)).mono ?_;rintro e w'' ⟨rfl,rfl⟩;exact⟨rfl,hc⟩)))
   refine wpQuiet_nil ?_;clear hC;intro C' hC';refine wpQuiet_nil ?_;clear hC';intro wq hbq;obtain⟨W1,W2,W3,va,vb,h1,h2,h3,⟨_,b2,b3⟩,⟨_,_,t3⟩,_,hrun,own3,gv,cv,hvb⟩:=stepW (enc:=tripE) Tryz.underlying25 info_tPath rfl (by decide) tripE_len tripE_one (by decide) (f:=7) (T:=31) (numP X ⟨q0,q1,q2,q3⟩) (hbxi.out.below hbq) (own_below own.out hbq) hlen (by omega) hbol.out (hbut.out.trans (But.of_below hbq _));rw [←hsn] at own3;have own3:=H_ own3;have hb3:Hid (Bx W3 bo 31 [.int .i64 X.hz,.slice A0 n0 x0,.slice A1 nP x1,.slice A2 nD x2,.slice A3 nR x3,.slice A4 nT x4,.slice A5 nH x5,vb,.slice none 0 0,.slice none 0 0,.slice none 0 0,.slice none 0 0]):=b3;have ht3:=H_ t3;have v5:=b2.cell 7 rfl;have v6:=b2.frozen 7;subst h1 h2 hvb
   have hrun:(Builtin.append_ #[25,25] 25 #[u,.slice (some ⟨wq.heap.size,0,none⟩) 1 1]).run Tryz.prog (wq.alloc (.cells ([.int .i64 (placeI X.stops q1),.int .i64 (placeI X.stops q2),.int .i64 q3]).toArray 99))= .ok (.slice (some ⟨gv,0,none⟩) (i+1) cv) W2:=hrun;rename_i k1 k2 k3 k4;clear k1 k2 k3 k4 hsn hlen b2 b3 t3 own hbxi hbut hbq hlowi;go_wp2_with (at_builtin;refine wpList_append_run ?r01 (.tmp 25) (.tmp 51) 25 ?r02 ?r03 ?r04 hrun ?_)
   case r01=>rfl
   case r02=>rfl
   try(case r03=>rfl)
   try(case r04=>rfl)
   go_roundw
   case rel=>exact⟨i+1,_,by omega,by go_num,hb3,own3,ht3⟩
   case measure=>simp [intOf];omega
  ·obtain rfl:nP=i:=by omega
   have own:Hid (wr.ownsRow wi0.heap.size 99 3 u nP ((X.paths.map (numP X)).flatMap tripE)):=by have:=own.out;rw [List.take_of_length_le (by rw [LP.out];omega)] at this;exact this
   have hup9: ∀ {e:TypeId} {z n:Nat} {v:Value} {xs:List Value} {b:Nat},31≠e→wi0.ownsRow b e z v n xs→wr.ownsRow b e z v n xs:=fun he h=>own_box h hbx.out he hbut.out;have hOP:=own;have hwi':=H_ (hwi.out.trans hbut.out);have hbx':=hbxi;have hbol':Hid (bo<wr.heap.size):=hbxi.out.lt;obtain⟨uP,huP⟩: ∃ q,q=u:=⟨_,rfl⟩
   subst huP;obtain⟨wi1,hw1⟩: ∃ q,q=wr:=⟨_,rfl⟩
   subst hw1;clear hup9 own hbxi hbut hwi hbx hbol hi hin;have hwi:=hwi';have hbx:=hbx';have hbol:=hbol';clear hwi' hbx' hbol';go_wp2_with fail;go_loopw [5] (fun iv wr=> ∃ (i:Nat) (u:Value),i≤nD∧iv= .int .i64 i∧Hid (Bx wr bo 31 [.int .i64 X.hz,.slice A0 n0 x0,.slice A1 nP x1,.slice A2 nD x2,.slice A3 nR x3,.slice A4 nT x4,.slice A5 nH x5,uP,u,.slice none 0 0,.slice none 0 0,.slice none 0 0])∧Hid (wr.ownsRow wi1.heap.size 104 6 u i (((X.doors.take i).map (numD X)).flatMap doorE))∧Hid (But wi1 wr [bo])) (fun iv _=>nD-(intOf iv).toNat)
   case atStart=>exact⟨0,.slice none 0 0,Nat.zero_le _,rfl,hbx,World.ownsRow_nil _ _ _ _,But.refl _ _⟩
   case round=>
    obtain⟨i,u,hi,rfl,hbxi,own,hbut⟩:=hrel;have hlowi:=hlow.out _ (hwi.out.trans hbut.out);have y0:=(B1.out.below hlowi).cell 3 rfl;by_cases hin:i<nD
    ·have hinI:(i:Int)<(nD:Int):=by omega
     obtain⟨b,o,⟨q0,q1,q2,q3,q4,q5,q6⟩,rfl,hbs,hx,hc0⟩:=hrD.out.get hin;have f0:=hc0 0 _ rfl;have f1:=hc0 1 _ rfl;have f2:=hc0 2 _ rfl;have f3:=hc0 3 _ rfl;have f4:=hc0 4 _ rfl;have f5:=hc0 5 _ rfl;have f6:=hc0 6 _ rfl;simp only [Nat.add_zero] at f0;clear hc0;have hsn:(X.doors.take (i+1)).map (numD X)=(X.doors.take i).map (numD X)++[numD X ⟨q0,q1,q2,q3,q4,q5,q6⟩]:=by rw [take_at hx,List.map_append,List.map_singleton]
     have hlen:((X.doors.take i).map (numD X)).length =i:=by rw [List.length_map,List.length_take,LD.out];omega
     clear hx;go_wp2_with fail;go_upto_region 9 with fail;refine wp_region_late [0,0,0,0,0,0,0,0,0,0,0,0,0,0,0,0,0,0,0,0,0,0,0,0,0,0,0,0,0,0,0,0,0,2,2,2,2] (by kernel_rfl) (by kernel_rfl) ?_;intro C hC;simp only [pickK,Nat.reduceEqDiff, ↓reduceIte]
     repeat(go_big_quiet_step (first
      |(intro _;with_reducible rfl)
      |(intro hc;have hR:=hwi.out.trans (hbut.out.trans (But.of_below hc _));have hbw:=hlow.out _ hR;have m0:=(hbxi.out.below hc).cell 8 rfl;have m1:=(B1.out.below hbw).cell 1 rfl;have m2:=(B1.out.below hbw).cell 3 rfl;have m3:=c_ hbw hbs f1;have m4:=c_ hbw hbs f2;have m5:=c_ hbw hbs f3;have m6:=c_ hbw hbs f4;have m7:=c_ hbw hbs f5;have m8:=c_ hbw hbs f6;simp only [m0,m1,m2,m3,m4,m5,m6,m7,m8,Result.andThen];exact⟨trivial,rfl⟩)
      |(intro hc;with_reducible refine(place_any a0 n0 c0 X.stops _ _ (hr0.out.below (hlow.out _ (hwi.out.trans (hbut.out.trans (But.of_below hc _))))) (by omega)).mono ?_;rintro e w'' ⟨rfl,rfl⟩;exact⟨rfl,hc⟩)))
     refine wpQuiet_nil ?_;clear hC;intro C' hC';refine wpQuiet_nil ?_;clear hC';intro wq hbq;obtain⟨W1,W2,W3,va,vb,h1,h2,h3,⟨_,b2,b3⟩,⟨_,_,t3⟩,_,hrun,own3,gv,cv,hvb⟩:=stepW (enc:=doorE) Tryz.underlying26 info_tDoor rfl (by decide) doorE_len doorE_one (by decide) (f:=8) (T:=31) (numD X ⟨q0,q1,q2,q3,q4,q5,q6⟩) (hbxi.out.below hbq) (own_below own.out hbq) hlen (by omega) hbol.out (hbut.out.trans (But.of_below hbq _));rw [←hsn] at own3;have own3:=H_ own3;have hb3:Hid (Bx W3 bo 31 [.int .i64 X.hz,.slice A0 n0 x0,.slice A1 nP x1,.slice A2 nD x2,.slice A3 nR x3,.slice A4 nT x4,.slice A5 nH x5,uP,vb,.slice none 0 0,.slice none 0 0,.slice none 0 0]):=b3;have ht3:=H_ t3;have v5:=b2.cell 8 rfl;have v6:=b2.frozen 8;subst h1 h2 hvb
     have hrun:(Builtin.append_ #[26,26] 26 #[u,.slice (some ⟨wq.heap.size,0,none⟩) 1 1]).run Tryz.prog (wq.alloc (.cells ([.int .i64 (placeI X.stops q1),.int .i64 (placeI X.stops q2),.int .i64 q3,.int .i64 q4,.int .i64 q5,.int .i64 q6]).toArray 104))= .ok (.slice (some ⟨gv,0,none⟩) (i+1) cv) W2:=hrun;rename_i k1 k2 k3 k4;clear k1 k2 k3 k4 hsn hlen b2 b3 t3 own hbxi hbut hbq hlowi;go_wp2_with (at_builtin;refine wpList_append_run ?r11 (.tmp 62) (.tmp 94) 26 ?r12 ?r13 ?r14 hrun ?_)
     case r11=>rfl
     case r12=>rfl
     try(case r13=>rfl)
     try(case r14=>rfl)
     go_roundw
     case rel=>exact⟨i+1,_,by omega,by go_num,hb3,own3,ht3⟩
     case measure=>simp [intOf];omega
    ·obtain rfl:nD=i:=by omega
     have own:Hid (wr.ownsRow wi1.heap.size 104 6 u nD ((X.doors.map (numD X)).flatMap doorE)):=by have:=own.out;rw [List.take_of_length_le (by rw [LD.out];omega)] at this;exact this
     have hup9: ∀ {e:TypeId} {z n:Nat} {v:Value} {xs:List Value} {b:Nat},31≠e→wi1.ownsRow b e z v n xs→wr.ownsRow b e z v n xs:=fun he h=>own_box h hbx.out he hbut.out;have hOP':=H_ (hup9 (by decide) hOP.out);have hOD:=own;have hwi':=H_ (hwi.out.trans hbut.out);have hbx':=hbxi;have hbol':Hid (bo<wr.heap.size):=hbxi.out.lt;obtain⟨uD,huD⟩: ∃ q,q=u:=⟨_,rfl⟩
     subst huD;obtain⟨wi2,hw2⟩: ∃ q,q=wr:=⟨_,rfl⟩
     subst hw2;clear hup9 own hbxi hbut hwi hbx hbol hi hin;clear hOP;have hOP:=hOP';have hwi:=hwi';have hbx:=hbx';have hbol:=hbol';clear hwi' hbx' hbol' hOP';go_wp2_with fail;go_loopw [6] (fun iv wr=> ∃ (i:Nat) (u:Value) (L:List RE3),i≤nR∧iv= .int .i64 i∧Hid (Bx wr bo 31 [.int .i64 X.hz,.slice A0 n0 x0,.slice A1 nP x1,.slice A2 nD x2,.slice A3 nR x3,.slice A4 nT x4,.slice A5 nH x5,uP,uD,u,.slice none 0 0,.slice none 0 0])∧Hid (wr.ownsRow wi2.heap.size 51 3 u i (L.flatMap re3E))∧Hid (RowsG (RouT wi2.heap.size) wr L ((X.routes.take i).map (numR X)))∧Hid (But wi2 wr [bo])) (fun iv _=>nR-(intOf iv).toNat)
     case atStart=>exact⟨0,.slice none 0 0,[],Nat.zero_le _,rfl,hbx,World.ownsRow_nil _ _ _ _,RowsG.nil,But.refl _ _⟩
     case round=>
      obtain⟨i,u,L,hi,rfl,hbxi,own,hT,hbut⟩:=hrel;have hlowi:=hlow.out _ (hwi.out.trans hbut.out);have y0:=(B1.out.below hlowi).cell 4 rfl;by_cases hin:i<nR
      ·have hinI:(i:Int)<(nR:Int):=by omega
       obtain⟨b,o,r,rfl,hbs,hx,f0,⟨s1,m1,d1,f1,rs1,e11,e12⟩,⟨s2,m2,d2,f2,rs2,e21,e22⟩,⟨s3,m3,d3,f3,rs3,e31,e32⟩⟩:=hrR.out.get hin;obtain⟨hl1,hl2,hl3⟩:=hfr.out r (List.mem_of_getElem? hx);have hm1:m1≤100000:=by have:=rs1.len;omega
       have hm2:m2≤100000:=by have:=rs2.len;omega
       have hm3:m3≤100000:=by have:=rs3.len;omega
       have F1:=c_ hlowi hbs f2;have F2:=c_ hlowi hbs f3;have zb:=Nat.lt_of_lt_of_le hbs hlowi.size;have zbn:=(B1.out.below hlowi).lt;have R1:=H_ rs1;have R2:=H_ (rs2.below hlowi);have R3:=H_ (rs3.below hlowi);have N1:=H_ rs1.len;have N2:=H_ rs2.len;have N3:=H_ rs3.len;have hsn:(X.routes.take (i+1)).map (numR X)=(X.routes.take i).map (numR X)++[numR X r]:=by rw [take_at hx,List.map_append,List.map_singleton]
       have hsn:=H_ hsn;have hLl:Hid (L.length=i):=by have:=hT.out.len;rw [List.length_map,List.length_take,LR.out] at this;show _=_;omega
       have Hf1:=H_ f1;obtain⟨wo,hwo⟩: ∃ q,q=wr:=⟨_,rfl⟩
       subst hwo;rename_i hsnX;clear hsnX rs1 rs2 rs3 hx hl1 hl2 hl3 e11 e12 e21 e22 e31 e32 f0 f1 f2 f3 hlowi;go_wp2_with fail;go_upto_region 13 with fail;refine wp_region_ghost (fun fl x w=>GS wo [(fl 0,x 0,KNil wo.heap.size 2 1),(fl 7,x 7,KOwn wo.heap.size 2 1 m2 (r.rides.flatMap (numE .i64))),(fl 8,x 8,KNil wo.heap.size 2 1),(fl 15,x 15,KOwn wo.heap.size 2 1 m3 (r.stays.flatMap (numE .i64))),(fl 17,x 17,KBox wo.heap.size 51 [.slice none 0 0,.slice none 0 0,.slice none 0 0])] [(fl 7,fl 0),(fl 15,fl 8)] [fl 7,fl 15] (fl 16) (x 16) (x 17) 51 [.slice none 0 0,(x 7),(x 15)] (fl 18) w) (by kernel_rfl) (by kernel_rfl) (by kernel_rfl) (by kernel_rfl) (by kernel_rfl) ?_ ?_
       ·intro x0;refine GS.start ?_ ?_ ?_ rfl rfl
        ·intro e he;simp only [List.mem_cons,List.not_mem_nil,or_false] at he;rcases he with rfl|rfl|rfl|rfl|rfl<;>first|exact KNil.mono _ _ _|exact KOwn.mono _ _ _ _ _|exact KBox.mono _ _ _
        ·intro e he;simp only [List.mem_cons,List.not_mem_nil,or_false] at he;rcases he with rfl|rfl|rfl|rfl|rfl<;>rfl
        ·intro e he;simp only [List.mem_cons,List.not_mem_nil,or_false] at he;rcases he with rfl|rfl<;>rfl
       intro base O hbase hO;have kx1:Hid (∀ xs,evX base O xs (.tmp 1)= .pointer (some ⟨bn,0,none⟩)∧evX base O xs (.tmp 6)= .int .i64 (i:Int)∧evX base O xs (.tmp 7)=xs 17∧evX base O xs (.tmp 104)=xs 0∧evX base O xs (.tmp 105)=xs 1∧evX base O xs (.tmp 106)=xs 2∧evX base O xs (.tmp 107)=xs 3∧evX base O xs (.tmp 108)=xs 4∧evX base O xs (.tmp 109)=xs 5∧evX base O xs (.tmp 110)=xs 6∧evX base O xs (.tmp 111)=xs 7∧evX base O xs (.tmp 112)=xs 8∧evX base O xs (.tmp 113)=xs 9∧evX base O xs (.tmp 114)=xs 10∧evX base O xs (.tmp 115)=xs 11∧evX base O xs (.tmp 116)=xs 12∧evX base O xs (.tmp 117)=xs 13∧evX base O xs (.tmp 118)=xs 14∧evX base O xs (.tmp 119)=xs 15∧evX base O xs (.tmp 120)=xs 16):=fun xs=>by rw [hbase,hO];exact⟨rfl,rfl,rfl,rfl,rfl,rfl,rfl,rfl,rfl,rfl,rfl,rfl,rfl,rfl,rfl,rfl,rfl,rfl,rfl,rfl⟩
       clear hbase hO;refine ga_ (n:=0) (fun _=>True) ?_ ?_
       ·intro fl xs w ev hG hD hl hdone hev ef K hK;clear hev hD;have hfin:=KNil.new w wo.heap.size 2 1 hG.bel.size;go_simp;exact hK _ _ trivial (hG.stepO 0 rfl hl (below_alloc _ _ _) hfin (im_cons (fun _=>rfl) (im_cons (hG.im (fl 15,fl 8) (by simp)) im_nil)))
       apply gd_ (n:=1);rfl
       ·intro fl xs w ev hG hD hl hdone hev ef K hK;have e1:=(hev (.tmp 1)).trans ((kx1.out xs).1);clear hev hD;go_simp;exact hK _ _ rfl hG
       apply gd_ (n:=2);rfl
       ·intro fl xs w ev hG hD hl hdone hev ef K hK;have e105:=(hev (.tmp 105)).trans ((kx1.out xs).2.2.2.2.1);have d1:=hD.at_ 1 rfl rfl;replace e105:=e105.trans d1;clear hev hD;have m0:=c_ hG.bel zbn y0;go_simp;exact hK _ _ rfl hG
       apply gd_ (n:=3);rfl
       ·intro fl xs w ev hG hD hl hdone hev ef K hK;have e6:=(hev (.tmp 6)).trans ((kx1.out xs).2.1);clear hev hD;go_simp;exact hK _ _ rfl hG
       apply gd_ (n:=4);rfl
       ·intro fl xs w ev hG hD hl hdone hev ef K hK;have e106:=(hev (.tmp 106)).trans ((kx1.out xs).2.2.2.2.2.1);have d2:=hD.at_ 2 rfl rfl;replace e106:=e106.trans d2;have e107:=(hev (.tmp 107)).trans ((kx1.out xs).2.2.2.2.2.2.1);have d3:=hD.at_ 3 rfl rfl;replace e107:=e107.trans d3;clear hev hD;go_simp;exact hK _ _ rfl hG
       apply gd_ (n:=5);rfl
       ·intro fl xs w ev hG hD hl hdone hev ef K hK;have e108:=(hev (.tmp 108)).trans ((kx1.out xs).2.2.2.2.2.2.2.1);have d4:=hD.at_ 4 rfl rfl;replace e108:=e108.trans d4;clear hev hD;go_simp;exact hK _ _ rfl hG
       apply gd_ (n:=6);rfl
       ·intro fl xs w ev hG hD hl hdone hev ef K hK;have e109:=(hev (.tmp 109)).trans ((kx1.out xs).2.2.2.2.2.2.2.2.1);have d5:=hD.at_ 5 rfl rfl;replace e109:=e109.trans d5;clear hev hD;have m0:=c_ hG.bel zb F1;go_simp;exact hK _ _ rfl hG
       refine ga_ (n:=7) (fun _=>True) ?_ ?_
       ·intro fl xs w ev hG hD hl hdone hev ef K hK;have e104:=(hev (.tmp 104)).trans ((kx1.out xs).2.2.2.1);have e110:=(hev (.tmp 110)).trans ((kx1.out xs).2.2.2.2.2.2.2.2.2.1);have d6:=hD.at_ 6 rfl rfl;replace e110:=e110.trans d6;clear hev hD;obtain⟨hf0,hGL⟩:=hG.ahead 1 rfl hl;obtain⟨gq,hgq,hown⟩:=hGL.get 0 rfl (done_of hdone 0 rfl);rw [hgq] at hown;have hsrc:=R2.out.below hG.bel;have hbs0:=hG.bel.size;obtain⟨vq,wq,hrun,own1,hb1⟩:=own_copy Tryz.underlying45 info_tI64 rfl (by decide) num_len d2 hown hsrc (by omega) (by decide) hbs0;exact outcome_append (.tmp 104) (.tmp 110) 45 rfl (e104.trans hgq) e110 hrun (hK _ _ trivial (hG.step 1 rfl hl (by simp) hb1 own1 (im_cons (fun _=>done_of hdone 0 rfl) (im_cons (hG.im (fl 15,fl 8) (by simp)) im_nil))))
       refine ga_ (n:=8) (fun _=>True) ?_ ?_
       ·intro fl xs w ev hG hD hl hdone hev ef K hK;clear hev hD;have hfin:=KNil.new w wo.heap.size 2 1 hG.bel.size;go_simp;exact hK _ _ trivial (hG.stepO 2 rfl hl (below_alloc _ _ _) hfin (im_cons (hG.im (fl 7,fl 0) (by simp)) (im_cons (fun _=>rfl) im_nil)))
       apply gd_ (n:=9);rfl
       ·intro fl xs w ev hG hD hl hdone hev ef K hK;have e1:=(hev (.tmp 1)).trans ((kx1.out xs).1);clear hev hD;go_simp;exact hK _ _ rfl hG
       apply gd_ (n:=10);rfl
       ·intro fl xs w ev hG hD hl hdone hev ef K hK;have e113:=(hev (.tmp 113)).trans ((kx1.out xs).2.2.2.2.2.2.2.2.2.2.2.2.1);have d9:=hD.at_ 9 rfl rfl;replace e113:=e113.trans d9;clear hev hD;have m0:=c_ hG.bel zbn y0;go_simp;exact hK _ _ rfl hG
       apply gd_ (n:=11);rfl
       ·intro fl xs w ev hG hD hl hdone hev ef K hK;have e6:=(hev (.tmp 6)).trans ((kx1.out xs).2.1);clear hev hD;go_simp;exact hK _ _ rfl hG
       apply gd_ (n:=12);rfl
       ·intro fl xs w ev hG hD hl hdone hev ef K hK;have e114:=(hev (.tmp 114)).trans ((kx1.out xs).2.2.2.2.2.2.2.2.2.2.2.2.2.1);have d10:=hD.at_ 10 rfl rfl;replace e114:=e114.trans d10;have e115:=(hev (.tmp 115)).trans ((kx1.out xs).2.2.2.2.2.2.2.2.2.2.2.2.2.2.1);have d11:=hD.at_ 11 rfl rfl;replace e115:=e115.trans d11;clear hev hD;go_simp;exact hK _ _ rfl hG
       apply gd_ (n:=13);rfl
       ·intro fl xs w ev hG hD hl hdone hev ef K hK;have e116:=(hev (.tmp 116)).trans ((kx1.out xs).2.2.2.2.2.2.2.2.2.2.2.2.2.2.2.1);have d12:=hD.at_ 12 rfl rfl;replace e116:=e116.trans d12;clear hev hD;go_simp;exact hK _ _ rfl hG
       apply gd_ (n:=14);rfl
       ·intro fl xs w ev hG hD hl hdone hev ef K hK;have e117:=(hev (.tmp 117)).trans ((kx1.out xs).2.2.2.2.2.2.2.2.2.2.2.2.2.2.2.2.1);have d13:=hD.at_ 13 rfl rfl;replace e117:=e117.trans d13;clear hev hD;have m0:=c_ hG.bel zb F2;go_simp;exact hK _ _ rfl hG
       refine ga_ (n:=15) (fun _=>True) ?_ ?_
       ·intro fl xs w ev hG hD hl hdone hev ef K hK;have e112:=(hev (.tmp 112)).trans ((kx1.out xs).2.2.2.2.2.2.2.2.2.2.2.1);have e118:=(hev (.tmp 118)).trans ((kx1.out xs).2.2.2.2.2.2.2.2.2.2.2.2.2.2.2.2.2.1);have d14:=hD.at_ 14 rfl rfl;replace e118:=e118.trans d14;clear hev hD;obtain⟨hf0,hGL⟩:=hG.ahead 3 rfl hl;obtain⟨gq,hgq,hown⟩:=hGL.get 2 rfl (done_of hdone 8 rfl);rw [hgq] at hown;have hsrc:=R3.out.below hG.bel;have hbs0:=hG.bel.size;obtain⟨vq,wq,hrun,own1,hb1⟩:=own_copy Tryz.underlying45 info_tI64 rfl (by decide) num_len d3 hown hsrc (by omega) (by decide) hbs0;exact outcome_append (.tmp 112) (.tmp 118) 45 rfl (e112.trans hgq) e118 hrun (hK _ _ trivial (hG.step 3 rfl hl (by simp) hb1 own1 (im_cons (hG.im (fl 7,fl 0) (by simp)) (im_cons (fun _=>done_of hdone 8 rfl) im_nil))))
       refine ga_ (n:=16) (fun _=>True) ?_ ?_
       ·intro fl xs w ev hG hD hl hdone hev ef K hK;have e111:=(hev (.tmp 111)).trans ((kx1.out xs).2.2.2.2.2.2.2.2.2.2.1);have e119:=(hev (.tmp 119)).trans ((kx1.out xs).2.2.2.2.2.2.2.2.2.2.2.2.2.2.2.2.2.2.1);clear hev hD;obtain⟨wz111,hkz111⟩:=hG.wit 1 rfl (done_of hdone 7 rfl);obtain⟨aq111,cq111,hxq111,_⟩:=Rd.of_own num_len N2.out hkz111;rw [hxq111] at e111;clear hkz111;obtain⟨wz119,hkz119⟩:=hG.wit 3 rfl (done_of hdone 15 rfl);obtain⟨aq119,cq119,hxq119,_⟩:=Rd.of_own num_len N3.out hkz119;rw [hxq119] at e119;clear hkz119;have hfin:=hG.built (xb':= .agg (List.toArray [.slice none 0 0,(xs 7),(xs 15)])) hl (by simp [done_of hdone 7 rfl,done_of hdone 15 rfl]) rfl;go_simp;rw [←hxq111];rw [←hxq119];exact hK _ _ trivial hfin
       refine ga_ (n:=17) (fun _=>True) ?_ ?_
       ·intro fl xs w ev hG hD hl hdone hev ef K hK;clear hev hD;have hfin:=hG.bel.size;go_simp;exact hK _ _ trivial (hG.stepO 4 rfl hl (below_alloc _ _ _) ⟨_,rfl,hfin,Bx.new w _ _⟩ (im_cons (hG.im (fl 7,fl 0) (by simp)) (im_cons (hG.im (fl 15,fl 8) (by simp)) im_nil)))
       refine ga_ (n:=18) (fun _=>True) ?_ ?_
       ·intro fl xs w ev hG hD hl hdone hev ef K hK;have e7:=(hev (.tmp 7)).trans ((kx1.out xs).2.2.1);have e120:=(hev (.tmp 120)).trans ((kx1.out xs).2.2.2.2.2.2.2.2.2.2.2.2.2.2.2.2.2.2.2);clear hev hD;have hGL:=hG.ini hl;obtain⟨gq,hgq,hq0,hbq⟩:=hGL.get 4 rfl (done_of hdone 17 rfl);obtain⟨hdeps,hbd⟩:=hG.bd (done_of hdone 16 rfl);obtain⟨aq111,cq111,hxq111,_⟩:=Rd.of_own num_len N2.out (hGL.get 1 rfl (hdeps _ (by simp)));obtain⟨aq119,cq119,hxq119,_⟩:=Rd.of_own num_len N3.out (hGL.get 3 rfl (hdeps _ (by simp)));have hall: ∀ e∈[fl 0,fl 7,fl 8,fl 15,fl 17],e=true:=by simp [done_of hdone 17 rfl,hdeps (fl 7) (by simp),hdeps (fl 15) (by simp),(show fl 0=true from hG.im (fl 7,fl 0) (by simp) (hdeps _ (by simp))),(show fl 8=true from hG.im (fl 15,fl 8) (by simp) (hdeps _ (by simp)))]
        exact outcome_store (.tmp 7) (.tmp 120) 51 rfl (e7.trans hgq) (e120.trans hbd) hbq (by kernel_rfl) rfl (by simp [hxq111,hxq119,Value.oneCell']) (fun w' hB hBut=>hK _ _ trivial (hG.put hl (done_of hdone 16 rfl) (by simpa using hall) hgq hq0 hbq.lt hB hBut))
       clear kx1;intro xs wj hG hI;clear hI;have hbelj:=hG.bel;obtain⟨waj,bj,hGLj,hgoj,hbnj,hblj,hbxj,hbutj⟩:=hG.fin rfl;clear hG;have q0j:=hGLj.get 0 rfl rfl;have q1j:=hGLj.get 1 rfl rfl;have q2j:=hGLj.get 2 rfl rfl;have q3j:=hGLj.get 3 rfl rfl;have q4j:=hGLj.get 4 rfl rfl;simp only [List.append_eq,List.cons_append,List.nil_append,setAll,List.setIfInBounds_toArray,List.set_cons_zero,List.set_cons_succ,Nat.zero_add,Nat.reduceAdd];obtain⟨A2',c2x,hA2,_⟩:=Rd.of_own num_len N2.out q1j;obtain⟨A3',c3x,hA3,_⟩:=Rd.of_own num_len N3.out q3j;obtain⟨bz,hbz,_,hBz⟩:=q4j;rw [hgoj] at hbz;cases hbz;have O2:=own_box q1j hBz (by decide) hbutj;have O3:=own_box q3j hBz (by decide) hbutj;rw [hA2] at O2 hbxj;rw [hA3] at O3 hbxj;have O2:=H_ O2;have O3:=H_ O3;have hbxj:=H_ hbxj;have hbelj:=H_ hbelj;have hbnj:=H_ hbnj;have hbljj:Hid (bj<wj.heap.size):=hbxj.out.lt
       have hYY:Hid (∀ U,But wj U [bj]→But wi0 U [bo]):=fun U hU=>hwi.out.trans (hbut.out.trans (But.of_below (hbelj.out.trans (hU.below hbelj.out.size (m_ hbnj.out))) _));rw [hgoj];clear q0j q1j q2j q3j hA2 hA3 hBz hbutj hgoj hGLj y0 zb zbn F1 F2 R2 R3;rename_i k1 k2 k3 k4;clear k1 k2 k3 k4;go_wp2_with fail;go_loopw [8] (fun kv wr=> ∃ (k:Nat) (ux:Value),k≤m1∧kv= .int .i64 k∧Hid (Bx wr bj 51 [ux,.slice A2' m2 c2x,.slice A3' m3 c3x])∧Hid (wr.ownsRow wj.heap.size 3 1 ux k (((r.stops.take k).map (placeI X.stops)).flatMap (numE .i64)))∧Hid (But wj wr [bj])) (fun kv _=>m1-(intOf kv).toNat)
       case atStart=>exact⟨0,.slice none 0 0,Nat.zero_le _,rfl,hbxj,World.ownsRow_nil _ _ _ _,But.refl _ _⟩
       case round=>
        obtain⟨k,ux,hk,rfl,hbxk,ownk,hbutk⟩:=hrel;have hlowk:=hlow.out _ (hYY.out _ hbutk.out);have y0:=(B1.out.below hlowk).cell 4 rfl;have F0:=c_ hlowk hbs Hf1.out;by_cases hkn:k<m1
        ·have hknI:(k:Int)<(m1:Int):=by omega
         obtain⟨b2,o2,sx,rfl,hb2,hxk,h0⟩:=R1.out.str hkn;have htk:(r.stops.take (k+1)).map (placeI X.stops)=(r.stops.take k).map (placeI X.stops)++[placeI X.stops sx]:=by rw [take_at hxk,List.map_append,List.map_singleton]
         have hlen:((r.stops.take k).map (placeI X.stops)).length =k:=by rw [List.length_map,List.length_take];have:=N1.out;omega
         clear hlowk;go_wp2_with fail;go_upto_region 17 with fail;refine wp_region_late [0,0,0,0,0,0,0,0,0,0,0,0,0,0,2,2,2,2] (by kernel_rfl) (by kernel_rfl) ?_;intro C hC;simp only [pickK,Nat.reduceEqDiff, ↓reduceIte]
         repeat(go_big_quiet_step (first
          |(intro _;with_reducible rfl)
          |(intro hc;have hR:=hYY.out _ (hbutk.out.trans (But.of_below hc _));have hbw:=hlow.out _ hR;have m0:=(hbxk.out.below hc).cell 0 rfl;have m1:=(B1.out.below hbw).cell 1 rfl;have m2:=(B1.out.below hbw).cell 4 rfl;have m3:=c_ hbw hbs Hf1.out;have m4:=c_ hbw hb2 h0;simp only [m0,m1,m2,m3,m4,Result.andThen];exact⟨trivial,rfl⟩)
          |(intro hc;with_reducible refine(place_any a0 n0 c0 X.stops _ _ (hr0.out.below (hlow.out _ (hYY.out _ (hbutk.out.trans (But.of_below hc _))))) (by omega)).mono ?_;rintro e w'' ⟨rfl,rfl⟩;exact⟨rfl,hc⟩)))
         refine wpQuiet_nil ?_;clear hC;intro C' hC';refine wpQuiet_nil ?_;clear hC';intro wq hbq;obtain⟨W1,W2,W3,va,vb,h1,h2,h3,⟨_,c2,c3⟩,⟨_,_,t3⟩,_,hrun,own3,gv,cv,hvb⟩:=stepW (enc:=numE .i64) Tryz.underlying49 info_tInt rfl (by decide) num_len num_one (by decide) (f:=0) (T:=51) (placeI X.stops sx) (hbxk.out.below hbq) (own_below ownk.out hbq) hlen (by omega) hbljj.out (hbutk.out.trans (But.of_below hbq _));rw [←htk] at own3;have own3:=H_ own3;have hb3:Hid (Bx W3 bj 51 [vb,.slice A2' m2 c2x,.slice A3' m3 c3x]):=c3;have ht3:=H_ t3;have v5:=c2.cell 0 rfl;have v6:=c2.frozen 0;subst h1 h2 hvb;have hrun:(Builtin.append_ #[49,49] 49 #[ux,.slice (some ⟨wq.heap.size,0,none⟩) 1 1]).run Tryz.prog (wq.alloc (.cells #[.int .i64 (placeI X.stops sx)] 3))= .ok (.slice (some ⟨gv,0,none⟩) (k+1) cv) W2:=hrun;rename_i k1 k2 k3 k4;clear k1 k2 k3 k4 htk hlen hxk ownk hbxk hbutk c2 c3 t3 hbq
         go_wp2_with (at_builtin;refine wpList_append_run ?s1 (.tmp 133) (.tmp 146) 49 ?s2 ?s3 ?s4 hrun ?_)
         case s1=>rfl
         case s2=>rfl
         try(case s3=>rfl)
         try(case s4=>rfl)
         go_roundw
         case rel=>exact⟨k+1,_,by omega,by go_num,hb3,own3,ht3⟩
         case measure=>simp [intOf];omega
        ·obtain rfl:m1=k:=by omega
         have hbwr:Below wo.heap.size wo wr:=hbelj.out.trans (hbutk.out.below hbelj.out.size (m_ hbnj.out));have hml:(r.stops.map (placeI X.stops)).length =m1:=by rw [List.length_map];exact N1.out
         have ownF:=ownk.out;rw [List.take_of_length_le (by rw [N1.out];omega)] at ownF;obtain⟨A1',c1x,rfl,_⟩:=Rd.of_own num_len hml ownF
         have hrow:RouT wi2.heap.size wr (((A1',m1,c1x),(A2',m2,c2x),(A3',m3,c3x)):RE3) (numR X r):=by
          have z1:=hbut.out.size;have z2:=hbelj.out.size;refine⟨?_,?_,?_⟩
          ·show wr.ownsRow _ _ _ (.slice A1' m1 c1x) (r.stops.map (placeI X.stops)).length _;rw [hml];exact own_base ownF (by omega)
          ·show wr.ownsRow _ _ _ (.slice A2' m2 c2x) r.rides.length _;rw [N2.out];exact own_base (own_box O2.out hbxj.out (by decide) hbutk.out) z1
          ·show wr.ownsRow _ _ _ (.slice A3' m3 c3x) r.stays.length _;rw [N3.out];exact own_base (own_box O3.out hbxj.out (by decide) hbutk.out) z1
         obtain⟨W1,W2,W3,va,vb,h1,h2,h3,⟨_,b2,b3⟩,⟨_,_,t3⟩,hkeep,hrun,own3,gv,cv,hvb⟩:=stepW (enc:=re3E) Tryz.underlying27 info_tRoute rfl (by decide) re3E_len re3E_one (by decide) (f:=9) (T:=31) (((A1',m1,c1x),(A2',m2,c2x),(A3',m3,c3x)):RE3) (hbxi.out.below hbwr) (own_below own.out hbwr) hLl.out (by omega) hbol.out (hbut.out.trans (But.of_below hbwr _))
         have hT3:Hid (RowsG (RouT wi2.heap.size) W3 (L++[(((A1',m1,c1x),(A2',m2,c2x),(A3',m3,c3x)):RE3)]) ((X.routes.take (i+1)).map (numR X))):=by
          rw [hsn.out];exact((hT.out.up (fun _ _ h=>h.up (fun _ _ _ _ _ _ _ _ h=>own_below h hbwr))).snoc hrow).up (fun _ _ h=>h.up (fun _ _ _ _ _ _ he hb h=>hkeep _ _ _ _ _ _ (by rcases he with rfl|rfl<;>decide) (by rw [hb];exact hbol.out) h))
         have own3:=H_ own3;have hb3:Hid (Bx W3 bo 31 [.int .i64 X.hz,.slice A0 n0 x0,.slice A1 nP x1,.slice A2 nD x2,.slice A3 nR x3,.slice A4 nT x4,.slice A5 nH x5,uP,uD,vb,.slice none 0 0,.slice none 0 0]):=b3;have ht3:=H_ t3;have v0:=(hbxi.out.below hbwr).cell 9 rfl;obtain⟨v1,v2,v3⟩:=c_3 hbxk.out;have v5:=b2.cell 9 rfl;have v6:=b2.frozen 9;subst h1 h2 hvb;have hrun:(Builtin.append_ #[27,27] 27 #[u,.slice (some ⟨wr.heap.size,0,none⟩) 1 1]).run Tryz.prog (wr.alloc (.cells #[.slice A1' m1 c1x,.slice A2' m2 c2x,.slice A3' m3 c3x] 51))= .ok (.slice (some ⟨gv,0,none⟩) (i+1) cv) W2:=hrun;rename_i k1 k2 k3;clear k1 k2 k3 hkeep b2 b3 t3 hrow ownF hbwr ownk hbxk hbutk hT own hbxi hbut O2 O3 hlowk;go_wp2_with (at_builtin;refine wpList_append_run ?z1 (.tmp 150) (.tmp 152) 27 ?z2 ?z3 ?z4 hrun ?_)
         case z1=>rfl
         case z2=>rfl
         try(case z3=>rfl)
         try(case z4=>rfl)
         go_roundw
         case rel=>exact⟨i+1,_,_,by omega,by go_num,hb3,own3,hT3,ht3⟩
         case measure=>simp [intOf];omega
      ·obtain rfl:nR=i:=by omega
       have hT:Hid (RowsG (RouT wi2.heap.size) wr L (X.routes.map (numR X))):=by have:=hT.out;rw [List.take_of_length_le (by rw [LR.out];omega)] at this;exact this
       have hup9: ∀ {e:TypeId} {z n:Nat} {v:Value} {xs:List Value} {b:Nat},31≠e→wi2.ownsRow b e z v n xs→wr.ownsRow b e z v n xs:=fun he h=>own_box h hbx.out he hbut.out;have hOP':=H_ (hup9 (by decide) hOP.out);have hOD':=H_ (hup9 (by decide) hOD.out);have hOR:=own;have hwi':=H_ (hwi.out.trans hbut.out);have hbx':=hbxi;have hbol':Hid (bo<wr.heap.size):=hbxi.out.lt;obtain⟨uR,huR⟩: ∃ q,q=u:=⟨_,rfl⟩
       subst huR;obtain⟨wi3,hw3⟩: ∃ q,q=wr:=⟨_,rfl⟩
       subst hw3;clear hup9 own hbxi hbut hwi hbx hbol hi hin;have hTR:=hT;clear hT;clear hOP hOD;have hOP:=hOP';have hOD:=hOD';have hwi:=hwi';have hbx:=hbx';have hbol:=hbol';clear hwi' hbx' hbol' hOP' hOD';go_wp2_with fail;go_loopw [9] (fun iv wr=> ∃ (i:Nat) (u:Value),i≤nT∧iv= .int .i64 i∧Hid (Bx wr bo 31 [.int .i64 X.hz,.slice A0 n0 x0,.slice A1 nP x1,.slice A2 nD x2,.slice A3 nR x3,.slice A4 nT x4,.slice A5 nH x5,uP,uD,uR,u,.slice none 0 0])∧Hid (wr.ownsRow wi3.heap.size 53 4 u i (((X.trips.take i).map (numT X)).flatMap tripP))∧Hid (But wi3 wr [bo])) (fun iv _=>nT-(intOf iv).toNat)
       case atStart=>exact⟨0,.slice none 0 0,Nat.zero_le _,rfl,hbx,World.ownsRow_nil _ _ _ _,But.refl _ _⟩
       case round=>
        obtain⟨i,u,hi,rfl,hbxi,own,hbut⟩:=hrel;have hlowi:=hlow.out _ (hwi.out.trans hbut.out);have y0:=(B1.out.below hlowi).cell 5 rfl;by_cases hin:i<nT
        ·have hinI:(i:Int)<(nT:Int):=by omega
         obtain⟨b,o,⟨q0,q1,q2,q3,q4⟩,rfl,hbs,hx,hc0⟩:=hrT.out.get hin;have f0:=hc0 0 _ rfl;have f1:=hc0 1 _ rfl;have f2:=hc0 2 _ rfl;have f3:=hc0 3 _ rfl;have f4:=hc0 4 _ rfl;simp only [Nat.add_zero] at f0;clear hc0;have hsn:(X.trips.take (i+1)).map (numT X)=(X.trips.take i).map (numT X)++[numT X ⟨q0,q1,q2,q3,q4⟩]:=by rw [take_at hx,List.map_append,List.map_singleton]
         have hlen:((X.trips.take i).map (numT X)).length =i:=by rw [List.length_map,List.length_take,LT.out];omega
         clear hx;go_wp2_with fail;go_upto_region 22 with fail;refine wp_region_late [0,0,0,0,0,0,0,0,0,0,0,0,0,0,0,0,0,0,0,0,0,0,0,0,0,0,0,0,0,0,0,2,2,2,2] (by kernel_rfl) (by kernel_rfl) ?_;intro C hC;simp only [pickK,Nat.reduceEqDiff, ↓reduceIte]
         repeat(go_big_quiet_step (first
          |(intro _;with_reducible rfl)
          |(intro hc;have hR:=hwi.out.trans (hbut.out.trans (But.of_below hc _));have hbw:=hlow.out _ hR;have m0:=(hbxi.out.below hc).cell 10 rfl;have m1:=(hbxi.out.below hc).cell 4 rfl;have m2:=(B1.out.below hbw).cell 5 rfl;have m3:=c_ hbw hbs f1;have m4:=c_ hbw hbs f2;have m5:=c_ hbw hbs f3;have m6:=c_ hbw hbs f4;simp only [m0,m1,m2,m3,m4,m5,m6,Result.andThen];exact⟨trivial,rfl⟩)
          |(intro hc;with_reducible refine(place_any A3 nR x3 (X.routes.map (·.name)) _ _ (hNN.out _ (hwi.out.trans (hbut.out.trans (But.of_below hc _)))).2.2.2.1 (by omega)).mono ?_;rintro e w'' ⟨rfl,rfl⟩;exact⟨rfl,hc⟩)))
         refine wpQuiet_nil ?_;clear hC;intro C' hC';refine wpQuiet_nil ?_;clear hC';intro wq hbq;obtain⟨W1,W2,W3,va,vb,h1,h2,h3,⟨_,b2,b3⟩,⟨_,_,t3⟩,_,hrun,own3,gv,cv,hvb⟩:=stepW (enc:=tripP) Tryz.underlying28 info_tTrip rfl (by decide) tripP_len tripP_one (by decide) (f:=10) (T:=31) (numT X ⟨q0,q1,q2,q3,q4⟩) (hbxi.out.below hbq) (own_below own.out hbq) hlen (by omega) hbol.out (hbut.out.trans (But.of_below hbq _));rw [←hsn] at own3;have own3:=H_ own3;have hb3:Hid (Bx W3 bo 31 [.int .i64 X.hz,.slice A0 n0 x0,.slice A1 nP x1,.slice A2 nD x2,.slice A3 nR x3,.slice A4 nT x4,.slice A5 nH x5,uP,uD,uR,vb,.slice none 0 0]):=b3;have ht3:=H_ t3;have v5:=b2.cell 10 rfl;have v6:=b2.frozen 10;subst h1 h2 hvb
         have hrun:(Builtin.append_ #[28,28] 28 #[u,.slice (some ⟨wq.heap.size,0,none⟩) 1 1]).run Tryz.prog (wq.alloc (.cells ([.int .i64 (placeI (X.routes.map (·.name)) q1),.int .i64 q2,.int .i64 q3,.int .i64 q4]).toArray 53))= .ok (.slice (some ⟨gv,0,none⟩) (i+1) cv) W2:=hrun;rename_i k1 k2 k3 k4;clear k1 k2 k3 k4 hsn hlen b2 b3 t3 own hbxi hbut hbq hlowi;go_wp2_with (at_builtin;refine wpList_append_run ?r31 (.tmp 163) (.tmp 193) 28 ?r32 ?r33 ?r34 hrun ?_)
         case r31=>rfl
         case r32=>rfl
         try(case r33=>rfl)
         try(case r34=>rfl)
         go_roundw
         case rel=>exact⟨i+1,_,by omega,by go_num,hb3,own3,ht3⟩
         case measure=>simp [intOf];omega
        ·obtain rfl:nT=i:=by omega
         have own:Hid (wr.ownsRow wi3.heap.size 53 4 u nT ((X.trips.map (numT X)).flatMap tripP)):=by have:=own.out;rw [List.take_of_length_le (by rw [LT.out];omega)] at this;exact this
         have hup9: ∀ {e:TypeId} {z n:Nat} {v:Value} {xs:List Value} {b:Nat},31≠e→wi3.ownsRow b e z v n xs→wr.ownsRow b e z v n xs:=fun he h=>own_box h hbx.out he hbut.out;have hOP':=H_ (hup9 (by decide) hOP.out);have hOD':=H_ (hup9 (by decide) hOD.out);have hOR':=H_ (hup9 (by decide) hOR.out);have hTR':=H_ (hTR.out.up (fun _ _ h=>h.up (fun _ _ _ _ _ _ he _ h=>hup9 (by rcases he with rfl|rfl<;>decide) h)));have hOT:=own;have hwi':=H_ (hwi.out.trans hbut.out);have hbx':=hbxi;have hbol':Hid (bo<wr.heap.size):=hbxi.out.lt;obtain⟨uT,huT⟩: ∃ q,q=u:=⟨_,rfl⟩
         subst huT;obtain⟨wi4,hw4⟩: ∃ q,q=wr:=⟨_,rfl⟩
         subst hw4;clear hup9 own hbxi hbut hwi hbx hbol hi hin;clear hOP hOD hOR;have hOP:=hOP';have hOD:=hOD';have hOR:=hOR';clear hTR;have hTR:=hTR';clear hTR';have hwi:=hwi';have hbx:=hbx';have hbol:=hbol';clear hwi' hbx' hbol' hOP' hOD' hOR';go_wp2_with fail;go_loopw [10] (fun iv wr=> ∃ (i:Nat) (u:Value),i≤nH∧iv= .int .i64 i∧Hid (Bx wr bo 31 [.int .i64 X.hz,.slice A0 n0 x0,.slice A1 nP x1,.slice A2 nD x2,.slice A3 nR x3,.slice A4 nT x4,.slice A5 nH x5,uP,uD,uR,uT,u])∧Hid (wr.ownsRow wi4.heap.size 108 5 u i (((X.hazs.take i).map (numH X)).flatMap hazE))∧Hid (But wi4 wr [bo])) (fun iv _=>nH-(intOf iv).toNat)
         case atStart=>exact⟨0,.slice none 0 0,Nat.zero_le _,rfl,hbx,World.ownsRow_nil _ _ _ _,But.refl _ _⟩
         case round=>
          obtain⟨i,u,hi,rfl,hbxi,own,hbut⟩:=hrel;have hlowi:=hlow.out _ (hwi.out.trans hbut.out);have y0:=(B1.out.below hlowi).cell 6 rfl;by_cases hin:i<nH
          ·have hinI:(i:Int)<(nH:Int):=by omega
           obtain⟨b,o,⟨q0,q1,q2,q3,q4⟩,rfl,hbs,hx,hc0⟩:=hrH.out.get hin;have f0:=hc0 0 _ rfl;have f1:=hc0 1 _ rfl;have f2:=hc0 2 _ rfl;have f3:=hc0 3 _ rfl;have f4:=hc0 4 _ rfl;simp only [Nat.add_zero] at f0;clear hc0;have hsn:(X.hazs.take (i+1)).map (numH X)=(X.hazs.take i).map (numH X)++[numH X ⟨q0,q1,q2,q3,q4⟩]:=by rw [take_at hx,List.map_append,List.map_singleton]
           have hlen:((X.hazs.take i).map (numH X)).length =i:=by rw [List.length_map,List.length_take,LH.out];omega
           clear hx;have y1:=(B1.out.below hlowi).cell 1 rfl;have zbn:=(B1.out.below hlowi).lt;have zb:=Nat.lt_of_lt_of_le hbs hlowi.size;have G1:=c_ hlowi hbs f1;have G2:=c_ hlowi hbs f2;have G3:=c_ hlowi hbs f3;have G4:=c_ hlowi hbs f4;have hrS:=H_ (hr0.out.below hlowi);obtain⟨pv,hpv⟩: ∃ q,placeI X.stops q1=q:=⟨_,rfl⟩
           clear hlowi;go_wp2_with fail;go_upto_region 26 with fail;refine wp_region_ghost (fun fl x w=>GS wr [(fl 16,x 16,KBox wr.heap.size 108 [.bool false,.int .i64 0,.int .i64 0,.int .i64 0,.int .i64 0])] [] [] (fl 15) (x 15) (x 16) 108 [.bool true,.int .i64 pv,.int .i64 q2,.int .i64 q3,.int .i64 q4] (fl 17) w) (by kernel_rfl) (by kernel_rfl) (by kernel_rfl) (by kernel_rfl) (by kernel_rfl) ?_ ?_
           ·intro x0;refine GS.start ?_ ?_ ?_ rfl rfl
            ·intro e he;simp only [List.mem_cons,List.not_mem_nil,or_false] at he;rcases he with rfl<;>first|exact KNil.mono _ _ _|exact KOwn.mono _ _ _ _ _|exact KBox.mono _ _ _
            ·intro e he;simp only [List.mem_cons,List.not_mem_nil,or_false] at he;rcases he with rfl<;>rfl
            ·intro e he;cases he
           intro base O hbase hO;have kx1:Hid (∀ xs,evX base O xs (.tmp 1)= .pointer (some ⟨bn,0,none⟩)∧evX base O xs (.tmp 10)= .int .i64 (i:Int)∧evX base O xs (.tmp 11)=xs 16∧evX base O xs (.tmp 203)=xs 0∧evX base O xs (.tmp 204)=xs 1∧evX base O xs (.tmp 205)=xs 2∧evX base O xs (.tmp 206)=xs 3∧evX base O xs (.tmp 207)=xs 4∧evX base O xs (.tmp 208)=xs 5∧evX base O xs (.tmp 209)=xs 6∧evX base O xs (.tmp 210)=xs 7∧evX base O xs (.tmp 211)=xs 8∧evX base O xs (.tmp 212)=xs 9∧evX base O xs (.tmp 213)=xs 10∧evX base O xs (.tmp 214)=xs 11∧evX base O xs (.tmp 215)=xs 12∧evX base O xs (.tmp 216)=xs 13∧evX base O xs (.tmp 217)=xs 14∧evX base O xs (.tmp 218)=xs 15):=fun xs=>by rw [hbase,hO];exact⟨rfl,rfl,rfl,rfl,rfl,rfl,rfl,rfl,rfl,rfl,rfl,rfl,rfl,rfl,rfl,rfl,rfl,rfl,rfl⟩
           clear hbase hO;apply gd_ (n:=0);rfl
           ·intro fl xs w ev hG hD hl hdone hev ef K hK;have e1:=(hev (.tmp 1)).trans ((kx1.out xs).1);clear hev hD;go_simp;exact hK _ _ rfl hG
           apply gd_ (n:=1);rfl
           ·intro fl xs w ev hG hD hl hdone hev ef K hK;have e203:=(hev (.tmp 203)).trans ((kx1.out xs).2.2.2.1);have d0:=hD.at_ 0 rfl rfl;replace e203:=e203.trans d0;clear hev hD;have m0:=c_ hG.bel zbn y1;go_simp;exact hK _ _ rfl hG
           apply gd_ (n:=2);rfl
           ·intro fl xs w ev hG hD hl hdone hev ef K hK;have e1:=(hev (.tmp 1)).trans ((kx1.out xs).1);clear hev hD;go_simp;exact hK _ _ rfl hG
           apply gd_ (n:=3);rfl
           ·intro fl xs w ev hG hD hl hdone hev ef K hK;have e205:=(hev (.tmp 205)).trans ((kx1.out xs).2.2.2.2.2.1);have d2:=hD.at_ 2 rfl rfl;replace e205:=e205.trans d2;clear hev hD;have m0:=c_ hG.bel zbn y0;go_simp;exact hK _ _ rfl hG
           apply gd_ (n:=4);rfl
           ·intro fl xs w ev hG hD hl hdone hev ef K hK;have e10:=(hev (.tmp 10)).trans ((kx1.out xs).2.1);clear hev hD;go_simp;exact hK _ _ rfl hG
           apply gd_ (n:=5);rfl
           ·intro fl xs w ev hG hD hl hdone hev ef K hK;have e206:=(hev (.tmp 206)).trans ((kx1.out xs).2.2.2.2.2.2.1);have d3:=hD.at_ 3 rfl rfl;replace e206:=e206.trans d3;have e207:=(hev (.tmp 207)).trans ((kx1.out xs).2.2.2.2.2.2.2.1);have d4:=hD.at_ 4 rfl rfl;replace e207:=e207.trans d4;clear hev hD;go_simp;exact hK _ _ rfl hG
           apply gd_ (n:=6);rfl
           ·intro fl xs w ev hG hD hl hdone hev ef K hK;have e208:=(hev (.tmp 208)).trans ((kx1.out xs).2.2.2.2.2.2.2.2.1);have d5:=hD.at_ 5 rfl rfl;replace e208:=e208.trans d5;clear hev hD;go_simp;exact hK _ _ rfl hG
           apply gd_ (n:=7);rfl
           ·intro fl xs w ev hG hD hl hdone hev ef K hK;have e209:=(hev (.tmp 209)).trans ((kx1.out xs).2.2.2.2.2.2.2.2.2.1);have d6:=hD.at_ 6 rfl rfl;replace e209:=e209.trans d6;clear hev hD;have m0:=c_ hG.bel zb G1;go_simp;exact hK _ _ rfl hG
           apply gd_ (n:=8);rfl
           ·intro fl xs w ev hG hD hl hdone hev ef K hK;have e204:=(hev (.tmp 204)).trans ((kx1.out xs).2.2.2.2.1);have d1:=hD.at_ 1 rfl rfl;replace e204:=e204.trans d1;have e210:=(hev (.tmp 210)).trans ((kx1.out xs).2.2.2.2.2.2.2.2.2.2.1);have d7:=hD.at_ 7 rfl rfl;replace e210:=e210.trans d7;clear hev hD;go_simp;refine(place_any a0 n0 c0 X.stops q1 w (hrS.out.below hG.bel) (by omega)).mono ?_;rintro e w'' ⟨rfl,rfl⟩;rw [hpv];exact⟨_,rfl,hK _ _ rfl hG⟩
           apply gd_ (n:=9);rfl
           ·intro fl xs w ev hG hD hl hdone hev ef K hK;have e1:=(hev (.tmp 1)).trans ((kx1.out xs).1);clear hev hD;go_simp;exact hK _ _ rfl hG
           apply gd_ (n:=10);rfl
           ·intro fl xs w ev hG hD hl hdone hev ef K hK;have e212:=(hev (.tmp 212)).trans ((kx1.out xs).2.2.2.2.2.2.2.2.2.2.2.2.1);have d9:=hD.at_ 9 rfl rfl;replace e212:=e212.trans d9;clear hev hD;have m0:=c_ hG.bel zbn y0;go_simp;exact hK _ _ rfl hG
           apply gd_ (n:=11);rfl
           ·intro fl xs w ev hG hD hl hdone hev ef K hK;have e10:=(hev (.tmp 10)).trans ((kx1.out xs).2.1);clear hev hD;go_simp;exact hK _ _ rfl hG
           apply gd_ (n:=12);rfl
           ·intro fl xs w ev hG hD hl hdone hev ef K hK;have e213:=(hev (.tmp 213)).trans ((kx1.out xs).2.2.2.2.2.2.2.2.2.2.2.2.2.1);have d10:=hD.at_ 10 rfl rfl;replace e213:=e213.trans d10;have e214:=(hev (.tmp 214)).trans ((kx1.out xs).2.2.2.2.2.2.2.2.2.2.2.2.2.2.1);have d11:=hD.at_ 11 rfl rfl;replace e214:=e214.trans d11;clear hev hD;go_simp;exact hK _ _ rfl hG
           apply gd_ (n:=13);rfl
           ·intro fl xs w ev hG hD hl hdone hev ef K hK;have e215:=(hev (.tmp 215)).trans ((kx1.out xs).2.2.2.2.2.2.2.2.2.2.2.2.2.2.2.1);have d12:=hD.at_ 12 rfl rfl;replace e215:=e215.trans d12;clear hev hD;go_simp;exact hK _ _ rfl hG
           apply gd_ (n:=14);rfl
           ·intro fl xs w ev hG hD hl hdone hev ef K hK;have e216:=(hev (.tmp 216)).trans ((kx1.out xs).2.2.2.2.2.2.2.2.2.2.2.2.2.2.2.2.1);have d13:=hD.at_ 13 rfl rfl;replace e216:=e216.trans d13;clear hev hD;have m0:=c_ hG.bel zb G2;have m1:=c_ hG.bel zb G3;have m2:=c_ hG.bel zb G4;go_simp;exact hK _ _ rfl hG
           refine ga_ (n:=15) (fun _=>True) ?_ ?_
           ·intro fl xs w ev hG hD hl hdone hev ef K hK;have e211:=(hev (.tmp 211)).trans ((kx1.out xs).2.2.2.2.2.2.2.2.2.2.2.1);have d8:=hD.at_ 8 rfl rfl;replace e211:=e211.trans d8;have e217:=(hev (.tmp 217)).trans ((kx1.out xs).2.2.2.2.2.2.2.2.2.2.2.2.2.2.2.2.2.1);have d14:=hD.at_ 14 rfl rfl;replace e217:=e217.trans d14;have ec: ∀ v,ev (.const v)=v:=fun v=>(hev _).trans rfl;clear hev hD;have hfin:=hG.built (xb':= .agg (List.toArray [.bool true,.int .i64 pv,.int .i64 q2,.int .i64 q3,.int .i64 q4])) hl (by simp []) rfl;go_simp;exact hK _ _ trivial hfin
           refine ga_ (n:=16) (fun _=>True) ?_ ?_
           ·intro fl xs w ev hG hD hl hdone hev ef K hK;clear hev hD;have hfin:=hG.bel.size;go_simp;exact hK _ _ trivial (hG.stepO 0 rfl hl (below_alloc _ _ _) ⟨_,rfl,hfin,Bx.new w _ _⟩ im_nil)
           refine ga_ (n:=17) (fun _=>True) ?_ ?_
           ·intro fl xs w ev hG hD hl hdone hev ef K hK;have e11:=(hev (.tmp 11)).trans ((kx1.out xs).2.2.1);have e218:=(hev (.tmp 218)).trans ((kx1.out xs).2.2.2.2.2.2.2.2.2.2.2.2.2.2.2.2.2.2);clear hev hD;have hGL:=hG.ini hl;obtain⟨gq,hgq,hq0,hbq⟩:=hGL.get 0 rfl (done_of hdone 16 rfl);obtain⟨hdeps,hbd⟩:=hG.bd (done_of hdone 15 rfl);have hall: ∀ e∈[fl 16],e=true:=by simp [done_of hdone 16 rfl]
            exact outcome_store (.tmp 11) (.tmp 218) 108 rfl (e11.trans hgq) (e218.trans hbd) hbq (by kernel_rfl) rfl (by simp [Value.oneCell']) (fun w' hB hBut=>hK _ _ trivial (hG.put hl (done_of hdone 15 rfl) (by simpa using hall) hgq hq0 hbq.lt hB hBut))
           clear kx1;intro xs wh hG hI;clear hI;have hbelh:=hG.bel;obtain⟨wah,bh,hGLh,hgoh,hbnh,hblh,hbxh,hbuth⟩:=hG.fin rfl;clear hG;have q0h:=hGLh.get 0 rfl rfl;simp only [List.append_eq,List.cons_append,List.nil_append,setAll,List.setIfInBounds_toArray,List.set_cons_zero,List.set_cons_succ,Nat.zero_add,Nat.reduceAdd];have hbb:=H_ hbelh;have hqs:=H_ hbnh;have hB2:=H_ hbxh;obtain⟨wb,hwb⟩: ∃ q,q=wh:=⟨_,rfl⟩
           subst hwb;have hbsr:=zb;have G1r:=G1;rw [hgoh];clear hGLh hgoh hblh hbuth y1 zbn zb G1 G2 G3 G4 hrS q0h hbelh hbnh hbxh;have z0:=hB2.out.cell 1 rfl;by_cases hpn:pv<0
           ·have G1:=c_ hbb.out hbsr G1r;have hbs9:=Nat.lt_of_lt_of_le hbsr hbb.out.size;go_upto_region 28 with fail;refine wp_region_late [0,0,0,0,0,0,0,0,0,0,0,2,2,2] (by kernel_rfl) (by kernel_rfl) ?_;intro C hC;simp only [pickK,Nat.reduceEqDiff, ↓reduceIte]
            repeat(go_big_quiet_step (first
             |(intro _;with_reducible rfl)
             |(intro hc;have hR:=hwi.out.trans (hbut.out.trans (But.of_below (b_ hbb hc) _));have hbw:=hlow.out _ hR;have m0:=(hbxi.out.below (b_ hbb hc)).cell 2 rfl;have m1:=(B1.out.below hbw).cell 6 rfl;have m2:=c_ hc hbs9 G1;simp only [m0,m1,m2,Result.andThen];exact⟨trivial,rfl⟩)
             |(intro hc;with_reducible refine(place_any A1 nP x1 (X.paths.map (·.name)) _ _ (hNN.out _ (hwi.out.trans (hbut.out.trans (But.of_below (b_ hbb hc) _)))).2.1 (by omega)).mono ?_;rintro e w'' ⟨rfl,rfl⟩;exact⟨rfl,hc⟩)))
            refine wpQuiet_nil ?_;clear hC;intro C' hC';refine wpQuiet_nil ?_;clear hC';intro wq hbq;obtain⟨pw,hpw⟩: ∃ q,placeI (X.paths.map (·.name)) q1=q:=⟨_,rfl⟩
            rw [hpw];have hBq1:=hB2.out.below hbq;have z1:=hBq1.cell 0 rfl;have z2:=hBq1.frozen 0;have hBq2:=hBq1.set 0 (.bool false);have z3:=hBq2.cell 1 rfl;have z4:=hBq2.frozen 1;have hBq3:Bx ((wq.setCell ⟨bh,0,none⟩ (.bool false)).setCell ⟨bh,1,none⟩ (.int .i64 pw)) bh 108 [.bool false,.int .i64 pw,.int .i64 q2,.int .i64 q3,.int .i64 q4]:=hBq2.set 1 (.int .i64 pw);have hbt:=But.of_below hbq [bh];have hbt2:But wb ((wq.setCell ⟨bh,0,none⟩ (.bool false)).setCell ⟨bh,1,none⟩ (.int .i64 pw)) [bh]:=(hbt.trans (But.of_set _ _ _ (by simp))).trans (But.of_set _ _ _ (by simp));have hbwc0:=hbb.out.trans (hbt2.below hbb.out.size (m_ hqs.out));have hbt2:=H_ hbt2;clear hBq1 hBq2 hbt G1 hbs9;go_upto_region 29 with fail;obtain⟨wc,hwc⟩: ∃ q,(wq.setCell ⟨bh,0,none⟩ (.bool false)).setCell ⟨bh,1,none⟩ (.int .i64 pw)=q:=⟨_,rfl⟩
            rw [hwc] at hBq3 hbwc0;simp only [hwc];clear z1 z2 z3 z4 hwc hbt2 hbq;have hel:hazE (numH X ⟨q0,q1,q2,q3,q4⟩)=[.bool false,.int .i64 pw,.int .i64 q2,.int .i64 q3,.int .i64 q4]:=by unfold numH;rw [show placeI X.stops (⟨q0,q1,q2,q3,q4⟩:SHazP).on =pv from hpv,if_pos hpn,←hpw];rfl
            obtain⟨W1,W2,W3,va,vb,h1,h2,h3,⟨_,b2,b3⟩,⟨_,_,t3⟩,_,hrun,own3,gv,cv,hvb⟩:=stepW (enc:=hazE) Tryz.underlying29 info_tHaz rfl (by decide) hazE_len hazE_one (by decide) (f:=11) (T:=31) (numH X ⟨q0,q1,q2,q3,q4⟩) (hbxi.out.below hbwc0) (own_below own.out hbwc0) hlen (by omega) hbol.out (hbut.out.trans (But.of_below hbwc0 _));rw [←hsn] at own3;have own3:=H_ own3;have hb3:Hid (Bx W3 bo 31 [.int .i64 X.hz,.slice A0 n0 x0,.slice A1 nP x1,.slice A2 nD x2,.slice A3 nR x3,.slice A4 nT x4,.slice A5 nH x5,uP,uD,uR,uT,vb]):=b3;have ht3:=H_ t3;have v0:=(hbxi.out.below hbwc0).cell 11 rfl;obtain⟨v1,v2,v3,v4,v7⟩:=c_5 hBq3;have v5:=b2.cell 11 rfl;have v6:=b2.frozen 11;subst h1 h2 hvb;rw [hel] at hrun
            have hrun:(Builtin.append_ #[29,29] 29 #[u,.slice (some ⟨wc.heap.size,0,none⟩) 1 1]).run Tryz.prog (wc.alloc (.cells ([.bool false,.int .i64 pw,.int .i64 q2,.int .i64 q3,.int .i64 q4]).toArray 108))= .ok (.slice (some ⟨gv,0,none⟩) (i+1) cv) W2:=hrun;rename_i k1 k2 k3 k4;clear k1 k2 k3 k4 hsn hlen b2 b3 t3 own hbxi hbut hbwc0 hBq3 hel;go_wp2_with (at_builtin;refine wpList_append_run ?k1 (.tmp 235) (.tmp 237) 29 ?k2 ?k3 ?k4 hrun ?_)
            case k1=>rfl
            case k2=>rfl
            try(case k3=>rfl)
            try(case k4=>rfl)
            go_roundw
            case rel=>exact⟨i+1,_,by omega,by go_num,hb3,own3,ht3⟩
            case measure=>simp [intOf];omega
           ·have hBq3:=hB2.out;have hbwc0:=hbb.out;obtain⟨wc,hwc⟩: ∃ q,q=wb:=⟨_,rfl⟩
            subst hwc;have hel:hazE (numH X ⟨q0,q1,q2,q3,q4⟩)=[.bool true,.int .i64 pv,.int .i64 q2,.int .i64 q3,.int .i64 q4]:=by unfold numH;rw [show placeI X.stops (⟨q0,q1,q2,q3,q4⟩:SHazP).on =pv from hpv,if_neg hpn,←hpv];rfl
            go_upto_region 29 with fail;obtain⟨W1,W2,W3,va,vb,h1,h2,h3,⟨_,b2,b3⟩,⟨_,_,t3⟩,_,hrun,own3,gv,cv,hvb⟩:=stepW (enc:=hazE) Tryz.underlying29 info_tHaz rfl (by decide) hazE_len hazE_one (by decide) (f:=11) (T:=31) (numH X ⟨q0,q1,q2,q3,q4⟩) (hbxi.out.below hbwc0) (own_below own.out hbwc0) hlen (by omega) hbol.out (hbut.out.trans (But.of_below hbwc0 _));rw [←hsn] at own3;have own3:=H_ own3;have hb3:Hid (Bx W3 bo 31 [.int .i64 X.hz,.slice A0 n0 x0,.slice A1 nP x1,.slice A2 nD x2,.slice A3 nR x3,.slice A4 nT x4,.slice A5 nH x5,uP,uD,uR,uT,vb]):=b3;have ht3:=H_ t3;have v0:=(hbxi.out.below hbwc0).cell 11 rfl;obtain⟨v1,v2,v3,v4,v7⟩:=c_5 hBq3;have v5:=b2.cell 11 rfl;have v6:=b2.frozen 11;subst h1 h2 hvb;rw [hel] at hrun
            have hrun:(Builtin.append_ #[29,29] 29 #[u,.slice (some ⟨wc.heap.size,0,none⟩) 1 1]).run Tryz.prog (wc.alloc (.cells ([.bool true,.int .i64 pv,.int .i64 q2,.int .i64 q3,.int .i64 q4]).toArray 108))= .ok (.slice (some ⟨gv,0,none⟩) (i+1) cv) W2:=hrun;rename_i k1 k2 k3 k4;clear k1 k2 k3 k4 hsn hlen b2 b3 t3 own hbxi hbut hbwc0 hBq3 hel;go_wp2_with (at_builtin;refine wpList_append_run ?l1 (.tmp 235) (.tmp 237) 29 ?l2 ?l3 ?l4 hrun ?_)
            case l1=>rfl
            case l2=>rfl
            try(case l3=>rfl)
            try(case l4=>rfl)
            go_roundw
            case rel=>exact⟨i+1,_,by omega,by go_num,hb3,own3,ht3⟩
            case measure=>simp [intOf];omega
          ·obtain rfl:nH=i:=by omega
           have own:Hid (wr.ownsRow wi4.heap.size 108 5 u nH ((X.hazs.map (numH X)).flatMap hazE)):=by have:=own.out;rw [List.take_of_length_le (by rw [LH.out];omega)] at this;exact this
           have hup9: ∀ {e:TypeId} {z n:Nat} {v:Value} {xs:List Value} {b:Nat},31≠e→wi4.ownsRow b e z v n xs→wr.ownsRow b e z v n xs:=fun he h=>own_box h hbx.out he hbut.out;have hOP':=H_ (hup9 (by decide) hOP.out);have hOD':=H_ (hup9 (by decide) hOD.out);have hOR':=H_ (hup9 (by decide) hOR.out);have hOT':=H_ (hup9 (by decide) hOT.out);have hTR':=H_ (hTR.out.up (fun _ _ h=>h.up (fun _ _ _ _ _ _ he _ h=>hup9 (by rcases he with rfl|rfl<;>decide) h)));have hOH:=own;have hwi':=H_ (hwi.out.trans hbut.out);have hbx':=hbxi;have hbol':Hid (bo<wr.heap.size):=hbxi.out.lt;obtain⟨uH,huH⟩: ∃ q,q=u:=⟨_,rfl⟩
           subst huH;obtain⟨wi5,hw5⟩: ∃ q,q=wr:=⟨_,rfl⟩
           subst hw5;clear hup9 own hbxi hbut hwi hbx hbol hi hin;clear hOP hOD hOR hOT;have hOP:=hOP';have hOD:=hOD';have hOR:=hOR';have hOT:=hOT';clear hTR;have hTR:=hTR';clear hTR';have hwi:=hwi';have hbx:=hbx';have hbol:=hbol';clear hwi' hbx' hbol' hOP' hOD' hOR' hOT';have e0:(X.paths.map (numP X)).length =nP:=by rw [List.length_map];exact LP.out
           have e1:(X.doors.map (numD X)).length =nD:=by rw [List.length_map];exact LD.out
           have e2:(X.routes.map (numR X)).length =nR:=by rw [List.length_map];exact LR.out
           have e3:(X.trips.map (numT X)).length =nT:=by rw [List.length_map];exact LT.out
           have e4:(X.hazs.map (numH X)).length =nH:=by rw [List.length_map];exact LH.out
           have eL:L.length=nR:=by rw [hTR.out.len];exact e2
           obtain⟨AP,xP,eP,_⟩:=Rd.of_own tripE_len e0 hOP.out;obtain⟨AD,xD,eD,_⟩:=Rd.of_own doorE_len e1 hOD.out;obtain⟨AR,xR,eR,_⟩:=Rd.of_own re3E_len eL hOR.out;obtain⟨AT,xT,eT,_⟩:=Rd.of_own tripP_len e3 hOT.out;obtain⟨AH,xH,eH,_⟩:=Rd.of_own hazE_len e4 hOH.out;subst eP eD eR eT eH;have hBq:=hQQ.out _ hwi.out;obtain⟨hBF,hbF⟩:=hBq.row [.int .i64 X.hz,.slice A0 n0 x0,.slice A1 nP x1,.slice A2 nD x2,.slice A3 nR x3,.slice A4 nT x4,.slice A5 nH x5,.slice AP nP xP,.slice AD nD xD,.slice AR nR xR,.slice AT nT xT,.slice AH nH xH];obtain⟨wF,hwF⟩: ∃ q,wi5.setRow bq (List.toArray [.int .i64 X.hz,.slice A0 n0 x0,.slice A1 nP x1,.slice A2 nD x2,.slice A3 nR x3,.slice A4 nT x4,.slice A5 nH x5,.slice AP nP xP,.slice AD nD xD,.slice AR nR xR,.slice AT nT xT,.slice AH nH xH])=q:=⟨_,rfl⟩
           rw [hwF] at hBF hbF
           have hfin:RW wF (numS X) ⟨A0,A1,A2,A3,A4,A5,AP,AD,AR,AT,AH,n0,nP,nD,nR,nT,nH,nP,nD,nR,nT,nH,x0,x1,x2,x3,x4,x5,xP,xD,xR,xT,xH⟩:=by
            obtain⟨r0,r1,r2,r3,r4,r5⟩:=hNN.out _ hwi.out;have hvs: ∀ v∈([.int .i64 0,.slice none 0 0,.slice none 0 0,.slice none 0 0,.slice none 0 0,.slice none 0 0,.slice none 0 0,.slice none 0 0,.slice none 0 0,.slice none 0 0,.slice none 0 0,.slice none 0 0]:List Value), ∀ s,v≠ .string s:=by intro v hv s;simp at hv;rcases hv with rfl|rfl<;>simp
            exact⟨r0.keep_box hBq hvs hbF,r1.keep_box hBq hvs hbF,r2.keep_box hBq hvs hbF,r3.keep_box hBq hvs hbF,r4.keep_box hBq hvs hbF,r5.keep_box hBq hvs hbF,
             rd_own tripE_len e0 (own_box hOP.out hBq (by decide) hbF),rd_own doorE_len e1 (own_box hOD.out hBq (by decide) hbF),
             (hTR.out.up (fun _ _ h=>h.up (fun _ _ _ _ _ _ he _ h=>own_box h hBq (by rcases he with rfl|rfl<;>decide) hbF))).routes (rd_own re3E_len eL (own_box hOR.out hBq (by decide) hbF)),
             rd_own tripP_len e3 (own_box hOT.out hBq (by decide) hbF),rd_own hazE_len e4 (own_box hOH.out hBq (by decide) hbF)⟩
           have hbelF:Below we.heap.size we wF:=(hup.out _ (hlow.out _ hwi.out)).trans (hbF.below (hup.out _ (hlow.out _ hwi.out)).size (m_ hbeq.out));have hfin:=H_ hfin;have hbelF:=H_ hbelF;have hBq:=H_ hBq;have hBF:=H_ hBF;rename_i g1X g2X g3X g4X;clear g1X g2X g3X g4X hbF e0 e1 e2 e3 e4 eL hOP hOD hOR hOT hOH hTR;go_upto_region 30 with fail;refine wp_region_lit ?_;refine wpList_load_bx (.tmp 3) 31 rfl rfl rfl hbx.out (by kernel_rfl) (by kernel_rfl) ?_;refine wpList_store_bx (.tmp 2) (.tmp 240) 31 rfl rfl rfl rfl hBq.out (by kernel_rfl) rfl rfl hwF ?_;refine wpList_nil ?_;clear hwF hbx;rename_i hKx;refine hKx _ _ (wp_ret ?_);refine bodyPost_bx (s:=2) (t:=31) rfl rfl hBF.out (by kernel_rfl) (by kernel_rfl) rfl ?_;exact⟨⟨A0,A1,A2,A3,A4,A5,AP,AD,AR,AT,AH,n0,nP,nD,nR,nT,nH,nP,nD,nR,nT,nH,x0,x1,x2,x3,x4,x5,xP,xD,xR,xT,xH⟩,by simp only [wVal,numS],hfin.out,hbelF.out⟩
