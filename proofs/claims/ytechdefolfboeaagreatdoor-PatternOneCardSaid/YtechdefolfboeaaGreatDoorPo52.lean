/- Merged. -/
import Derived.Test.YtechdefolfboeaaGreatDoorPo31
import Derived.Test.YtechdefolfboeaaGreatDoorPo51
set_option linter.unusedVariables false
set_option linter.unusedSimpArgs false
set_option maxRecDepth 100000
set_option maxHeartbeats 2000000
namespace Go.Proofs.YtechdefolfboeaaGreatDoor
open Go.RowKit B K
theorem legB_eq {hz:Int} {arr dep:List Int} {i:Nat} {a d:Int} (hh:hz≤1099511627776) (ha:arr[i]?=some a) (hd:dep[i]?=some d):
 legB hz arr dep i=true↔ ¬ a<0∧ ¬ hz<d∧ ¬ d<a∧(i=0∨ ∀ p,dep[i-1]?=some p→ ¬ a≤p):=by
 unfold legB;rw [ha,hd];simp only [Bool.and_eq_true,decide_eq_true_eq,Bool.or_eq_true];constructor
 ·rintro⟨h1,h2,h3,h4⟩;have:=W.chk_zero h1;refine⟨by omega,by omega,by omega,?_⟩;rcases h4 with h4|h4
  ·exact .inl h4
  ·refine .inr fun p hp=>?_;rw [hp] at h4;have:=of_decide_eq_true h4;omega
 ·rintro⟨h1,h2,h3,h4⟩;refine⟨W.chk_ok ⟨by omega,by omega⟩,by omega,by omega,?_⟩;rcases h4 with h4|h4
  ·exact .inl h4
  ·right;split
   ·rename_i p hp;have:=h4 p hp;exact T_ (by omega)
   ·rfl
theorem rfits_any (M:WorldP) (V:WV) (we:World) (hr:RW we M V) (hG: ∀ q∈M.trips,0≤q.route∧q.route<(M.routes.length:Int)) (hf:Few M) (hz:M.hz≤1099511627776) (t no:Int) (x1 x2:Option Addr) (m1 m2 d1 d2:Nat) (arr dep:List Int) (ha:Rd we 1 (numE .i64) x1 m1 arr) (hd:Rd we 1 (numE .i64) x2 m2 dep):
 Calls Tryz.prog 78 #[wVal M V,.agg #[.int .i64 t,.int .i64 no,.slice x1 m1 d1,.slice x2 m2 d2]] we fun e w'=>e= .returned (.bool (fitsB M t arr dep))∧Below we.heap.size we w':=by
 obtain⟨a0,a1,a2,a3,a4,a5,aP,aD,aR,aT,aH,n0,n1,n2,n3,n4,n5,nP,nD,nR,nT,nH,c0,c1,c2,c3,c4,c5,cP,cD,cR,cT,cH⟩:=V;have hrH:=H_ hr;have haH:=H_ ha;have hdH:=H_ hd;have hle:=H_ (tripStops_le hf t);have hzH:=H_ hz;have hGH:=H_ hG;have hfH:=H_ hf;simp only [wVal] at*;have hnT:M.trips.length=nT:=hr.rT.len;have hnR:M.routes.length=nR:=hr.rR.len;have hnTH:=H_ hnT;have hnRH:=H_ hnR;obtain⟨w1,w2,b1,b2,hw1,hw2,hbE1,hbE2,hbF2,hb1,hb2,hup,B1,B2,hge1,hge2⟩:=enter2 we 31 47 [.int .i64 M.hz,.slice a0 n0 c0,.slice a1 n1 c1,.slice a2 n2 c2,.slice a3 n3 c3,.slice a4 n4 c4,.slice a5 n5 c5,.slice aP nP cP,.slice aD nD cD,.slice aR nR cR,.slice aT nT cT,.slice aH nH cH] [.int .i64 t,.int .i64 no,.slice x1 m1 d1,.slice x2 m2 d2];obtain⟨p0,p1,p2,p3,p4,p5,p6,p7,p8,p9,p10,p11⟩:=c_12 B1;obtain⟨q0,q1,q2,q3⟩:=c_4 B2;have B1H:=H_ B1;have B2H:=H_ B2;have hmT:nT≤100000:=by rw [←hnT];exact hf.sT
 clear B1 B2 hb1 hb2 hr hG hf ha hd hz hnT hnR;go_enter Tryz.func78,Tryz.ntmps78;by_cases ht0:t<0
 ·have hno:Hid (fitsB M t arr dep=false):=by show _=_;unfold fitsB tripStops;rw [if_pos ht0];rfl
  have hd0:decide (t<0)=true:=T_ ht0;go_wp2_with fail;clear hw1 hw2 hbE1 hbE2 hbF2;go_returns;exact⟨ret_bool hno.out.symm,hup.out⟩
 ·obtain⟨kt,rfl⟩:=Int.eq_ofNat_of_zero_le (show 0≤t by omega);have hd0:decide ((kt:Int)<0)=false:=F_ (by omega);by_cases hkT:kt<nT
  ·have hkTI:decide (nT≤kt)=false:=F_ (by omega);have hkTJ:(kt:Int)<(nT:Int):=by omega
   obtain⟨bT,oT,q,rfl,hbT,hq,hcT⟩:=hrH.out.rT.get hkT;have hqr:=hGH.out q (List.mem_of_getElem? hq);obtain⟨jr,ejr⟩:=Int.eq_ofNat_of_zero_le hqr.1;have hjR:jr<nR:=by rw [←hnRH.out];omega
   have hjRI:(jr:Int)<(nR:Int):=by omega
   obtain⟨rt,hrt⟩: ∃ rt,M.routes[jr]?=some rt:=⟨_,List.getElem?_eq_getElem (by rw [hnRH.out];exact hjR)⟩
   obtain⟨bR,oR,rfl,hbR,⟨sS,nS,dS,s0,rS,_⟩,_⟩:=hrH.out.rR.at_ jr rt hrt
   have ets:tripStops M (kt:Int)=rt.stops:=by
    unfold tripStops;rw [if_neg ht0,Int.toNat_natCast,hq];simp only;rw [ejr,Int.toNat_natCast,hrt]
   have z0:=hcT 0 _ rfl;rw [ejr,Nat.add_zero] at z0;have hl:Hid ((tripStops M (kt:Int)).length =nS):=by show _=_;rw [ets];exact rS.len
   have hnS:nS≤100000:=by rw [←hl.out];exact hle.out
   clear hcT hq hqr ejr hrt ets rS;go_wp2_with fail;have l1:=B1H.out.lt;have l2:=B2H.out.lt;go_upto_region 3 with fail;refine wb_ w2.heap.size ?_;intro C hC
   repeat(go_big_quiet_step (first
    |((intro _;with_reducible rfl))
    |(intro hc;have hcw:=b_ hup hc;have m0:=c_ hc l1 p9;have m1:=c_ hc l1 p10;have m2:=c_ hc l2 q0;have m3:=c_ hcw hbT z0;have m4:=c_ hcw hbR s0;simp only [m0,m1,m2,m3,m4,Result.andThen];exact⟨trivial,rfl⟩)
   ))
   refine wpQuiet_nil ?_;intro w9 hb9;clear hC;clear l1 l2;have h9:=h_ hup hb9;have c1:=H_ (B1H.out.below hb9);have c2:=H_ (B2H.out.below hb9);clear hb9 p0 p1 p2 p3 p4 p5 p6 p7 p8 p9 p10 p11 q0 q1 q2 q3 z0 s0;have v0:=c1.out.cell 0 rfl;have y2:=c2.out.cell 2 rfl;have y3:=c2.out.cell 3 rfl;have l1:=c1.out.lt;have l2:=c2.out.lt;by_cases hm1:m1=nS
   ·subst hm1;by_cases hm2:m2=m1
    ·subst hm2;by_cases hm0:m2<1
     ·have hno:Hid (fitsB M (kt:Int) arr dep=false):=by show _=_;unfold fitsB;rw [hl.out,show decide (m2≠0)=false from F_ (by omega)];rfl
      have g1:((m2:Int) !=(m2:Int))=false:=by simp
      have g2:decide (m2<1)=true:=T_ hm0;have g3:decide ((m2:Int)<1)=true:=T_ (by omega);go_wp2_with fail;clear hw1 hw2 hbE1 hbE2 hbF2;go_returns;exact⟨ret_bool hno.out.symm,h9.out⟩
     ·have g1:((m2:Int) !=(m2:Int))=false:=by simp
      have g2:decide (m2<1)=false:=F_ hm0;have g3:decide ((m2:Int)<1)=false:=F_ (by omega);obtain⟨k,rfl⟩: ∃ k,m2=k+1:=⟨m2-1,by omega⟩
      have hfd:Hid (fitsB M (kt:Int) arr dep=(decide (arr[0]?=dep[0]?)&&(decide (arr[k]?=dep[k]?)&&(List.range (k+1)).all (legB M.hz arr dep)))):=by
       show _=_;unfold fitsB;rw [hl.out,show decide (k+1≠0)=true from T_ (by omega),haH.out.len,hdH.out.len,T_ rfl,Nat.add_sub_cancel];rfl
      have hall0:Hid (∀ j,j<0→legB M.hz arr dep j=true):=fun j hj=>absurd hj (by omega);have hb0:Hid (Below w9.heap.size w9 w9):=Below.refl _ _;have v0H:=H_ v0;have y2H:=H_ y2;have y3H:=H_ y3;go_wp2_with fail;clear hw1 hw2 hbE1 hbE2 hbF2 v0 y2 y3;go_loopw [6] (fun iv wr=> ∃ i:Nat,i≤k+1∧iv= .int .i64 i∧Hid (Below w9.heap.size w9 wr)∧Hid (∀ j,j<i→legB M.hz arr dep j=true)) (fun iv _=>k+1-(intOf iv).toNat)
      case atStart=>exact⟨0,Nat.zero_le _,rfl,hb0,hall0⟩
      case round=>
       clear hb0 hall0;obtain⟨i,hi,rfl,hb,hall⟩:=hrel;have hbr:=h_ h9 hb.out;have v0:=c_ hb.out l1 v0H.out;have y2:=c_ hb.out l2 y2H.out;have y3:=c_ hb.out l2 y3H.out;have l1r:=Nat.lt_of_lt_of_le l1 hb.out.size;have l2r:=Nat.lt_of_lt_of_le l2 hb.out.size;by_cases hik:i<k+1
       ·have hiI:(i:Int)<(k:Int)+1:=by omega
        have hiJ:(i:Int)<((k+1:Nat):Int):=by omega
        obtain⟨bA,oA,a,rfl,hbA,hxa,ga⟩:=haH.out.num hik;obtain⟨bD,oD,d,rfl,hbD,hxd,gd⟩:=hdH.out.num hik;have hleg:=legB_eq hzH.out hxa hxd;by_cases hok:legB M.hz arr dep i=true
        ·obtain⟨q1,q2,q3,q4⟩:=hleg.1 hok;have e1:decide (a<0)=false:=F_ q1;have e2:decide (M.hz<d)=false:=F_ q2;have e3:decide (d<a)=false:=F_ q3
         have hall':Hid (∀ j,j<i+1→legB M.hz arr dep j=true):=fun j hj=>by
          rcases Nat.lt_or_ge j i with h|h
          ·exact hall.out j h
          ·obtain rfl:j=i:=by omega
           exact hok
         clear hleg hok q1 q2 q3 hall;rcases Nat.eq_zero_or_pos i with hi0|hi0
         ·subst hi0;simp only [Nat.add_zero] at ga gd;have e4:decide ((0:Int)<((0:Nat):Int))=false:=by decide
          clear q4 hxa hxd;go_wp2_with fail;go_upto_region 9 with fail;refine wb_ wr.heap.size ?_;intro C hC
          repeat(go_big_quiet_step (first
           |((intro _;with_reducible rfl))
           |(intro hc;have hcw:=b_ hbr hc;have m0:=c_ hc l1r v0;have m1:=c_ hc l2r y2;have m2:=c_ hc l2r y3;have m3:=c_ hcw hbA ga;have m4:=c_ hcw hbD gd;simp only [m0,m1,m2,m3,m4,Result.andThen];exact⟨trivial,rfl⟩)
          ))
          refine wpQuiet_nil ?_;intro w8 hb8;clear hC;have hbz:=h_ hb hb8;clear hb8;go_wp2_with fail;go_roundw
          case rel=>exact⟨0+1,by omega,by go_num,hbz,hall'⟩
          case measure=>simp [intOf]
         ·obtain⟨i',rfl⟩: ∃ i',i=i'+1:=⟨i-1,by omega⟩
          obtain⟨bD',oD',p,hqD,_,hpx,gp⟩:=hdH.out.num (show i'<k+1 by omega);obtain⟨rfl,rfl⟩:bD=bD'∧oD=oD':=by simpa using hqD
          have hkp:decide ((0:Int)<((i'+1:Nat):Int))=true:=T_ (by omega);have hkpA:decide ((0:Int)<(i':Int)+1)=true:=T_ (by omega);have hkpB:decide (0<i'+1)=true:=T_ (by omega);have hkp2:IntKind.i64.wrap (((i'+1:Nat):Int)-1)=(i':Int):=by rw [show((i'+1:Nat):Int)-1=(i':Int) by omega];exact IntWalk.i64_in _ (by omega)
          have hiI':(i':Int)<((k+1:Nat):Int):=by omega
          have hiJ':(i':Int)<(k:Int)+1:=by omega
          clear hqD;have e5:decide (a≤p)=false:=F_ (by rcases q4 with h|h;omega;exact h p hpx);clear q4 hxa hxd hpx;go_wp2_with fail;go_upto_region 9 with fail;refine wb_ wr.heap.size ?_;intro C hC
          repeat(go_big_quiet_step (first
           |((intro _;with_reducible rfl))
           |(intro hc;have hcw:=b_ hbr hc;have m0:=c_ hc l1r v0;have m1:=c_ hc l2r y2;have m2:=c_ hc l2r y3;have m3:=c_ hcw hbA ga;have m4:=c_ hcw hbD gd;have m5:=c_ hcw hbD gp;simp only [m0,m1,m2,m3,m4,m5,Result.andThen];exact⟨trivial,rfl⟩)
          ))
          refine wpQuiet_nil ?_;intro w8 hb8;clear hC;have hbz:=h_ hb hb8;clear hb8;go_wp2_with fail;go_roundw
          case rel=>exact⟨i'+1+1,by omega,by go_num,hbz,hall'⟩
          case measure=>simp [intOf];omega
        ·have hno:Hid (fitsB M (kt:Int) arr dep=false):=by show _=_;rw [hfd.out,all_no hik (by simpa using hok),Bool.and_false,Bool.and_false]
         have hx:a<0∨(¬ a<0∧M.hz<d)∨(¬ a<0∧ ¬ M.hz<d∧d<a)∨(¬ a<0∧ ¬ M.hz<d∧ ¬ d<a∧ ∃ i' p,i=i'+1∧dep[i']?=some p∧a≤p):=by
          by_cases q1:a<0
          ·exact .inl q1
          ·by_cases q2:M.hz<d
           ·exact .inr (.inl ⟨q1,q2⟩)
           ·by_cases q3:d<a
            ·exact .inr (.inr (.inl ⟨q1,q2,q3⟩))
            ·refine .inr (.inr (.inr ⟨q1,q2,q3,?_⟩));refine Classical.byContradiction fun hc=>hok (hleg.2 ⟨q1,q2,q3,?_⟩);rcases Nat.eq_zero_or_pos i with h|h
             ·exact .inl h
             ·exact .inr fun p hp hap=>hc ⟨i-1,p,by omega,hp,hap⟩
         clear hleg hok hall hxa hxd;rcases hx with q1|⟨q1,q2⟩|⟨q1,q2,q3⟩|⟨q1,q2,q3,i',p,rfl,hpx,q4⟩
         ·have e1:decide (a<0)=true:=T_ q1;go_wp2_with fail;go_upto_region 9 with fail;refine wb_ wr.heap.size ?_;intro C hC
          repeat(go_big_quiet_step (first
           |((intro _;with_reducible rfl))
           |(intro hc;have hcw:=b_ hbr hc;have m0:=c_ hc l1r v0;have m1:=c_ hc l2r y2;have m2:=c_ hc l2r y3;have m3:=c_ hcw hbA ga;have m4:=c_ hcw hbD gd;simp only [m0,m1,m2,m3,m4,Result.andThen];exact⟨trivial,rfl⟩)
          ))
          refine wpQuiet_nil ?_;intro w8 hb8;clear hC;have hbz:=h_ hbr hb8;clear hb8;go_wp2_with fail;go_returns;exact⟨ret_bool hno.out.symm,hbz.out⟩
         ·have e1:decide (a<0)=false:=F_ q1;have e2:decide (M.hz<d)=true:=T_ q2;go_wp2_with fail;go_upto_region 9 with fail;refine wb_ wr.heap.size ?_;intro C hC
          repeat(go_big_quiet_step (first
           |((intro _;with_reducible rfl))
           |(intro hc;have hcw:=b_ hbr hc;have m0:=c_ hc l1r v0;have m1:=c_ hc l2r y2;have m2:=c_ hc l2r y3;have m3:=c_ hcw hbA ga;have m4:=c_ hcw hbD gd;simp only [m0,m1,m2,m3,m4,Result.andThen];exact⟨trivial,rfl⟩)
          ))
          refine wpQuiet_nil ?_;intro w8 hb8;clear hC;have hbz:=h_ hbr hb8;clear hb8;go_wp2_with fail;go_returns;exact⟨ret_bool hno.out.symm,hbz.out⟩
         ·have e1:decide (a<0)=false:=F_ q1;have e2:decide (M.hz<d)=false:=F_ q2;have e3:decide (d<a)=true:=T_ q3;go_wp2_with fail;go_upto_region 9 with fail;refine wb_ wr.heap.size ?_;intro C hC
          repeat(go_big_quiet_step (first
           |((intro _;with_reducible rfl))
           |(intro hc;have hcw:=b_ hbr hc;have m0:=c_ hc l1r v0;have m1:=c_ hc l2r y2;have m2:=c_ hc l2r y3;have m3:=c_ hcw hbA ga;have m4:=c_ hcw hbD gd;simp only [m0,m1,m2,m3,m4,Result.andThen];exact⟨trivial,rfl⟩)
          ))
          refine wpQuiet_nil ?_;intro w8 hb8;clear hC;have hbz:=h_ hbr hb8;clear hb8;go_wp2_with fail;go_returns;exact⟨ret_bool hno.out.symm,hbz.out⟩
         ·have e1:decide (a<0)=false:=F_ q1;have e2:decide (M.hz<d)=false:=F_ q2;have e3:decide (d<a)=false:=F_ q3;obtain⟨bD',oD',p',hqD,_,hpx',gp⟩:=hdH.out.num (show i'<k+1 by omega);obtain⟨rfl,rfl⟩:bD=bD'∧oD=oD':=by simpa using hqD
          have hkp:decide ((0:Int)<((i'+1:Nat):Int))=true:=T_ (by omega);have hkpA:decide ((0:Int)<(i':Int)+1)=true:=T_ (by omega);have hkpB:decide (0<i'+1)=true:=T_ (by omega);have hkp2:IntKind.i64.wrap (((i'+1:Nat):Int)-1)=(i':Int):=by rw [show((i'+1:Nat):Int)-1=(i':Int) by omega];exact IntWalk.i64_in _ (by omega)
          have hiI':(i':Int)<((k+1:Nat):Int):=by omega
          have hiJ':(i':Int)<(k:Int)+1:=by omega
          obtain rfl:p=p':=Option.some.inj (hpx.symm.trans hpx');clear hqD hpx';have e5:decide (a≤p)=true:=T_ q4;clear hpx;go_wp2_with fail;go_upto_region 9 with fail;refine wb_ wr.heap.size ?_;intro C hC
          repeat(go_big_quiet_step (first
           |((intro _;with_reducible rfl))
           |(intro hc;have hcw:=b_ hbr hc;have m0:=c_ hc l1r v0;have m1:=c_ hc l2r y2;have m2:=c_ hc l2r y3;have m3:=c_ hcw hbA ga;have m4:=c_ hcw hbD gd;have m5:=c_ hcw hbD gp;simp only [m0,m1,m2,m3,m4,m5,Result.andThen];exact⟨trivial,rfl⟩)
          ))
          refine wpQuiet_nil ?_;intro w8 hb8;clear hC;have hbz:=h_ hbr hb8;clear hb8;go_wp2_with fail;go_returns;exact⟨ret_bool hno.out.symm,hbz.out⟩
       ·obtain rfl:i=k+1:=by omega
        have hrest:Hid (fitsB M (kt:Int) arr dep=(decide (arr[0]?=dep[0]?)&&decide (arr[k]?=dep[k]?))):=by show _=_;rw [hfd.out,all_yes fun j hj=>hall.out j hj,Bool.and_true]
        obtain⟨bA,oA,a,rfl,hbA,hxa,ga⟩:=haH.out.num (show 0<k+1 by omega);obtain⟨bD,oD,d,rfl,hbD,hxd,gd⟩:=hdH.out.num (show 0<k+1 by omega);obtain⟨bA',oA',ae,hqA,_,hxae,gae⟩:=haH.out.num (show k<k+1 by omega);obtain⟨bD',oD',de,hqD,_,hxde,gde⟩:=hdH.out.num (show k<k+1 by omega);obtain⟨rfl,rfl⟩:bA=bA'∧oA=oA':=by simpa using hqA
        obtain⟨rfl,rfl⟩:bD=bD'∧oD=oD':=by simpa using hqD
        have hrest2:Hid (fitsB M (kt:Int) arr dep=(decide (a=d)&&decide (ae=de))):=by
         show _=_;rw [hrest.out,hxa,hxd,hxae,hxde]
         congr 1<;>simp
        simp only [Nat.add_zero] at ga gd;have hk1:IntKind.i64.wrap (((k+1:Nat):Int)-1)=(k:Int):=by rw [show((k+1:Nat):Int)-1=(k:Int) by omega];exact IntWalk.i64_in _ (by omega)
        have hk2:IntKind.i64.wrap ((k:Int)+1-1)=(k:Int):=by rw [show(k:Int)+1-1=(k:Int) by omega];exact IntWalk.i64_in _ (by omega)
        have hkI:(k:Int)<((k+1:Nat):Int):=by omega
        have hkJ:(k:Int)<(k:Int)+1:=by omega
        clear hxa hxd hxae hxde hqA hqD hrest hall hfd;by_cases had:a=d
        ·subst had;obtain⟨ve,hve⟩: ∃ v,(ae==de)=v:=⟨_,rfl⟩
         have hfin:Hid (ve=fitsB M (kt:Int) arr dep):=by show _=_;rw [hrest2.out,←hve,T_ rfl,Bool.true_and,Bool.eq_iff_iff];simp
         clear hrest2;go_wp2_with fail;go_upto_region 11 with fail;refine wb_ wr.heap.size ?_;intro C hC
         repeat(go_big_quiet_step (first
          |((intro _;with_reducible rfl))
          |(intro hc;have hcw:=b_ hbr hc;have m0:=c_ hc l2r y2;have m1:=c_ hc l2r y3;have m2:=c_ hcw hbA ga;have m3:=c_ hcw hbD gd;have m4:=c_ hcw hbA gae;have m5:=c_ hcw hbD gde;simp only [m0,m1,m2,m3,m4,m5,Result.andThen];exact⟨trivial,rfl⟩)
         ))
         refine wpQuiet_nil ?_;intro w8 hb8;clear hC;have hbz:=h_ hbr hb8;clear hb8;go_wp2_with fail;go_returns;exact⟨ret_bool (by first|exact hfin.out|(rw [hve];exact hfin.out)),hbz.out⟩
        ·have hadf:(a==d)=false:=by simp [had]
         have hfin:Hid (fitsB M (kt:Int) arr dep=false):=by show _=_;rw [hrest2.out,F_ had,Bool.false_and]
         clear hrest2 had;go_wp2_with fail;go_upto_region 11 with fail;refine wb_ wr.heap.size ?_;intro C hC
         repeat(go_big_quiet_step (first
          |((intro _;with_reducible rfl))
          |(intro hc;have hcw:=b_ hbr hc;have m0:=c_ hc l2r y2;have m1:=c_ hc l2r y3;have m2:=c_ hcw hbA ga;have m3:=c_ hcw hbD gd;simp only [m0,m1,m2,m3,Result.andThen];exact⟨trivial,rfl⟩)
         ))
         refine wpQuiet_nil ?_;intro w8 hb8;clear hC;have hbz:=h_ hbr hb8;clear hb8;go_wp2_with fail;go_returns;exact⟨ret_bool hfin.out.symm,hbz.out⟩
    ·have hno:Hid (fitsB M (kt:Int) arr dep=false):=by show _=_;unfold fitsB;rw [hl.out,show decide (dep.length=m1)=false from F_ (by rw [hdH.out.len];exact hm2)];simp
     have g1:((m1:Int) !=(m1:Int))=false:=by simp
     have g2:((m2:Int) !=(m1:Int))=true:=by simp;omega
     go_wp2_with fail;clear hw1 hw2 hbE1 hbE2 hbF2;go_returns;exact⟨ret_bool hno.out.symm,h9.out⟩
   ·have hno:Hid (fitsB M (kt:Int) arr dep=false):=by show _=_;unfold fitsB;rw [hl.out,show decide (arr.length=nS)=false from F_ (by rw [haH.out.len];exact hm1)];simp
    have g1:((m1:Int) !=(nS:Int))=true:=by simp;omega
    go_wp2_with fail;clear hw1 hw2 hbE1 hbE2 hbF2;go_returns;exact⟨ret_bool hno.out.symm,h9.out⟩
  ·have hno:Hid (fitsB M (kt:Int) arr dep=false):=by
    show _=_;unfold fitsB tripStops;rw [if_neg ht0,Int.toNat_natCast,List.getElem?_eq_none (by rw [hnTH.out];omega)];rfl
   have hkTI:decide (nT≤kt)=true:=T_ (by omega);go_wp2_with fail;clear hw1 hw2 hbE2 hbF2;go_returns;exact⟨ret_bool hno.out.symm,by first|exact hup.out|(rw [←hbE1];exact hup.out)⟩
theorem rFits_any (M:WorldP) (V:WV) (we:World) (hr:RW we M V) (hf:Few M) (t no:Int) (x1 x2:Option Addr) (m1 m2 d1 d2:Nat) (arr dep:List Int) (ha:Rd we 1 (numE .i64) x1 m1 arr) (hd:Rd we 1 (numE .i64) x2 m2 dep):
 Calls Tryz.prog 32 #[wVal M V,.agg #[.int .i64 t,.int .i64 no,.slice x1 m1 d1,.slice x2 m2 d2]] we fun e w'=>e= .returned (.int .i64 (if goodB nameB M&&fitsR M ⟨t,no,arr,dep⟩ then 0 else 2))∧Below we.heap.size we w':=by
 have hck:=H_ (fun w h=>check9_any M V w h hf);have hft:=H_ (fun w (h:RW w M V) hG hz ha hd=>rfits_any M V w h hG hf hz t no x1 x2 m1 m2 d1 d2 arr dep ha hd);obtain⟨a0,a1,a2,a3,a4,a5,aP,aD,aR,aT,aH,n0,n1,n2,n3,n4,n5,nP,nD,nR,nT,nH,c0,c1,c2,c3,c4,c5,cP,cD,cR,cT,cH⟩:=V;simp only [wVal] at*;have hrH:=H_ hr;have haH:=H_ ha;have hdH:=H_ hd;obtain⟨w1,w2,b1,b2,hw1,hw2,hbE1,hbE2,hbF2,hb1,hb2,hup,B1,B2,hge1,hge2⟩:=enter2 we 31 47 [.int .i64 M.hz,.slice a0 n0 c0,.slice a1 n1 c1,.slice a2 n2 c2,.slice a3 n3 c3,.slice a4 n4 c4,.slice a5 n5 c5,.slice aP nP cP,.slice aD nD cD,.slice aR nR cR,.slice aT nT cT,.slice aH nH cH] [.int .i64 t,.int .i64 no,.slice x1 m1 d1,.slice x2 m2 d2];obtain⟨p0,p1,p2,p3,p4,p5,p6,p7,p8,p9,p10,p11⟩:=c_12 B1;obtain⟨y0,y1,y2,y3⟩:=c_4 B2;have B1H:=H_ B1;have B2H:=H_ B2;clear B1 B2 hb1 hb2 hr ha hd
 cases hg:goodB nameB M with
 |false=>
  rw [Bool.false_and,if_neg (by simp)];have hgH:=H_ hg;clear hg;have qF:=run_field_wrong;go_enter Tryz.func32,Tryz.ntmps32;go_wp2_with fail;refine(hck.out w2 (hrH.out.below hup.out)).mono ?_;rintro e w3 ⟨c,k,a,rfl,hc,hb3⟩
  have hc0:(c !=0)=true:=by
   have:c≠0:=fun e=>by have:=hc.1 e;rw [hgH.out] at this;cases this
   simp [this]
  have hbz:=h_ hup hb3;clear hc hb3;go_wp2_with fail;clear hw1 hw2 hbE1 hbE2 hbF2;go_returns;exact⟨rfl,hbz.out⟩
 |true=>
  have hgH:=H_ hg;rw [Bool.true_and];clear hg;have hfd:Hid (fitsB M t arr dep=fitsR M ⟨t,no,arr,dep⟩):=rfl;obtain⟨q,hq⟩: ∃ q,fitsR M ⟨t,no,arr,dep⟩=q:=⟨_,rfl⟩
  rw [hq] at hfd ⊢;clear hq;have hfq:=H_ (fun w h hG hz ha hd=>by have:=hft.out w h hG hz ha hd;rw [hfd.out] at this;exact this);clear hft hfd
  cases q with
  |false=>
   rw [if_neg (by simp)];have qF:=run_field_wrong;go_enter Tryz.func32,Tryz.ntmps32;go_wp2_with fail;refine(hck.out w2 (hrH.out.below hup.out)).mono ?_;rintro e w3 ⟨c,k,a,rfl,hc,hb3⟩;obtain rfl:c=0:=hc.2 hgH.out;have hbz:=h_ hup hb3;obtain⟨z0,z1,z2,z3,z4,z5,z6,z7,z8,z9,z10,z11⟩:=c_12 (B1H.out.below hb3);obtain⟨zr0,zr1,zr2,zr3⟩:=c_4 (B2H.out.below hb3);clear hc hb3 p0 p1 p2 p3 p4 p5 p6 p7 p8 p9 p10 p11 y0 y1 y2 y3;go_wp2_with fail;refine(hfq.out w3 (hrH.out.below hbz.out) (goodW_rt (goodW_of hgH.out)) (goodW_of hgH.out).hz.2 (haH.out.below hbz.out) (hdH.out.below hbz.out)).mono ?_;rintro e w4 ⟨rfl,hb4⟩;have hby:=h_ hbz hb4;clear hb4;go_wp2_with fail;clear hw1 hw2 hbE1 hbE2 hbF2;go_returns;exact⟨rfl,hby.out⟩
  |true=>
   rw [if_pos rfl];have qF:=run_field_wrong;go_enter Tryz.func32,Tryz.ntmps32;go_wp2_with fail;refine(hck.out w2 (hrH.out.below hup.out)).mono ?_;rintro e w3 ⟨c,k,a,rfl,hc,hb3⟩;obtain rfl:c=0:=hc.2 hgH.out;have hbz:=h_ hup hb3;obtain⟨z0,z1,z2,z3,z4,z5,z6,z7,z8,z9,z10,z11⟩:=c_12 (B1H.out.below hb3);obtain⟨zr0,zr1,zr2,zr3⟩:=c_4 (B2H.out.below hb3);clear hc hb3 p0 p1 p2 p3 p4 p5 p6 p7 p8 p9 p10 p11 y0 y1 y2 y3;go_wp2_with fail;refine(hfq.out w3 (hrH.out.below hbz.out) (goodW_rt (goodW_of hgH.out)) (goodW_of hgH.out).hz.2 (haH.out.below hbz.out) (hdH.out.below hbz.out)).mono ?_;rintro e w4 ⟨rfl,hb4⟩;have hby:=h_ hbz hb4;clear hb4;go_wp2_with fail;clear hw1 hw2 hbE1 hbE2 hbF2;go_returns;exact⟨rfl,hby.out⟩
