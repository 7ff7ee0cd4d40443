/- Texts of one chain, merged. -/
import Derived.Test.YtechdefolfboeaaGreatDoorCc1
import Derived.Test.YtechdefolfboeaaGreatDoorCc40
import Derived.Test.YtechdefolfboeaaGreatDoorCc44
import Derived.Test.YtechdefolfboeaaGreatDoorCc45
set_option linter.unusedVariables false
set_option linter.unusedSimpArgs false
set_option maxRecDepth 100000
set_option maxHeartbeats 2000000
namespace Go.Proofs.YtechdefolfboeaaGreatDoor
open Go.RowKit B K
theorem legB_eq {hz:Int} {arr dep:List Int} {i:Nat} {a d:Int} (hh:hz≤1099511627776) (ha:arr[i]?=some a) (hd:dep[i]?=some d):
 legB hz arr dep i=true↔ ¬ a<0∧ ¬ hz<d∧ ¬ d<a∧(i=0∨ ∀ p,dep[i-1]?=some p→ ¬ a≤p):=by
 unfold legB
 rw [ha,hd]
 simp only [Bool.and_eq_true,decide_eq_true_eq,Bool.or_eq_true]
 constructor
 ·rintro⟨h1,h2,h3,h4⟩
  have:=W.chk_zero h1
  refine⟨by omega,by omega,by omega,?_⟩
  rcases h4 with h4|h4
  ·exact .inl h4
  ·refine .inr fun p hp=>?_
   rw [hp] at h4
   have:=of_decide_eq_true h4
   omega
 ·rintro⟨h1,h2,h3,h4⟩
  refine⟨W.chk_ok ⟨by omega,by omega⟩,by omega,by omega,?_⟩
  rcases h4 with h4|h4
  ·exact .inl h4
  ·right
   split
   ·rename_i p hp
    have:=h4 p hp
    exact decide_eq_true (by omega)
   ·rfl
theorem rfits_any (M:WorldP) (V:WV) (we:World) (hr:RW we M V) (hG: ∀ q∈M.trips,0≤q.route∧q.route<(M.routes.length:Int)) (hf:Few M) (hz:M.hz≤1099511627776) (t no:Int) (x1 x2:Option Addr) (m1 m2 d1 d2:Nat) (arr dep:List Int) (ha:Rd we 1 (numE .i64) x1 m1 arr) (hd:Rd we 1 (numE .i64) x2 m2 dep):
 Calls Tryz.prog 78 #[wVal M V,.agg #[.int .i64 t,.int .i64 no,.slice x1 m1 d1,.slice x2 m2 d2]] we fun e w'=>e= .returned (.bool (fitsB M t arr dep))∧Below we.heap.size we w':=by
 obtain⟨a0,a1,a2,a3,a4,a5,aP,aD,aR,aT,aH,n0,n1,n2,n3,n4,n5,nP,nD,nR,nT,nH,c0,c1,c2,c3,c4,c5,cP,cD,cR,cT,cH⟩:=V
 have hrH:=Lib.hid hr
 have haH:=Lib.hid ha
 have hdH:=Lib.hid hd
 have hle:=Lib.hid (tripStops_le hf t)
 have hzH:=Lib.hid hz
 have hGH:=Lib.hid hG
 have hfH:=Lib.hid hf
 simp only [wVal] at*
 have hnT:M.trips.length=nT:=hr.rT.len
 have hnR:M.routes.length=nR:=hr.rR.len
 have hnTH:=Lib.hid hnT
 have hnRH:=Lib.hid hnR
 obtain⟨w1,w2,b1,b2,hw1,hw2,hbE1,hbE2,hbF2,hb1,hb2,hup,B1,B2,hge1,hge2⟩:=enter2 we 31 47 [.int .i64 M.hz,.slice a0 n0 c0,.slice a1 n1 c1,.slice a2 n2 c2,.slice a3 n3 c3,.slice a4 n4 c4,.slice a5 n5 c5,.slice aP nP cP,.slice aD nD cD,.slice aR nR cR,.slice aT nT cT,.slice aH nH cH] [.int .i64 t,.int .i64 no,.slice x1 m1 d1,.slice x2 m2 d2]
 obtain⟨p0,p1,p2,p3,p4,p5,p6,p7,p8,p9,p10,p11⟩:=c_12 B1
 obtain⟨q0,q1,q2,q3⟩:=c_4 B2
 have B1H:=Lib.hid B1
 have B2H:=Lib.hid B2
 have hmT:nT≤100000:=by rw [←hnT];exact hf.sT
 clear B1 B2 hb1 hb2 hr hG hf ha hd hz hnT hnR
 go_enter Tryz.func78,Tryz.ntmps78
 by_cases ht0:t<0
 ·have hno:Hid (fitsB M t arr dep=false):=by show _=_;unfold fitsB tripStops;rw [if_pos ht0];rfl
  have hd0:decide (t<0)=true:=decide_eq_true ht0
  go_wp2_with fail
  clear hw1 hw2 hbE1 hbE2 hbF2
  go_returns
  exact⟨ret_bool hno.out.symm,hup.out⟩
 ·obtain⟨kt,rfl⟩:=Int.eq_ofNat_of_zero_le (show 0≤t by omega)
  have hd0:decide ((kt:Int)<0)=false:=decide_eq_false (by omega)
  by_cases hkT:kt<nT
  ·have hkTI:decide (nT≤kt)=false:=decide_eq_false (by omega)
   have hkTJ:(kt:Int)<(nT:Int):=by omega
   obtain⟨bT,oT,q,rfl,hbT,hq,hcT⟩:=hrH.out.rT.get hkT
   have hqr:=hGH.out q (List.mem_of_getElem? hq)
   obtain⟨jr,ejr⟩:=Int.eq_ofNat_of_zero_le hqr.1
   have hjR:jr<nR:=by rw [←hnRH.out];omega
   have hjRI:(jr:Int)<(nR:Int):=by omega
   obtain⟨rt,hrt⟩: ∃ rt,M.routes[jr]?=some rt:=⟨_,List.getElem?_eq_getElem (by rw [hnRH.out];exact hjR)⟩
   obtain⟨bR,oR,rfl,hbR,⟨sS,nS,dS,s0,rS,_⟩,_⟩:=hrH.out.rR.at_ jr rt hrt
   have ets:tripStops M (kt:Int)=rt.stops:=by
    unfold tripStops
    rw [if_neg ht0,Int.toNat_natCast,hq]
    simp only
    rw [ejr,Int.toNat_natCast,hrt]
   have z0:=hcT 0 _ rfl
   rw [ejr,Nat.add_zero] at z0
   have hl:Hid ((tripStops M (kt:Int)).length =nS):=by show _=_;rw [ets];exact rS.len
   have hnS:nS≤100000:=by rw [←hl.out];exact hle.out
   clear hcT hq hqr ejr hrt ets rS
   go_wp2_with fail
   have l1:=B1H.out.lt
   have l2:=B2H.out.lt
   go_upto_region 3 with fail
   refine wp_region_below w2.heap.size (by kernel_rfl) (by kernel_rfl) ?_
   intro C hC
   repeat(go_big_quiet_step (first
    |((intro _;with_reducible rfl))
    |(intro hc;have hcw:=b_ hup hc;have m0:=c_ hc l1 p9;have m1:=c_ hc l1 p10;have m2:=c_ hc l2 q0;have m3:=c_ hcw hbT z0;have m4:=c_ hcw hbR s0;simp only [m0,m1,m2,m3,m4,Result.andThen];exact⟨trivial,rfl⟩)
   ))
   refine wpQuiet_nil ?_
   intro w9 hb9
   clear hC
   clear l1 l2
   have h9:=h_ hup hb9
   have c1:=Lib.hid (B1H.out.below hb9)
   have c2:=Lib.hid (B2H.out.below hb9)
   clear hb9 p0 p1 p2 p3 p4 p5 p6 p7 p8 p9 p10 p11 q0 q1 q2 q3 z0 s0
   have v0:=c1.out.cell 0 rfl
   have y2:=c2.out.cell 2 rfl
   have y3:=c2.out.cell 3 rfl
   have l1:=c1.out.lt
   have l2:=c2.out.lt
   by_cases hm1:m1=nS
   ·subst hm1
    by_cases hm2:m2=m1
    ·subst hm2
     by_cases hm0:m2<1
     ·have hno:Hid (fitsB M (kt:Int) arr dep=false):=by show _=_;unfold fitsB;rw [hl.out,show decide (m2≠0)=false from decide_eq_false (by omega)];rfl
      have g1:((m2:Int) !=(m2:Int))=false:=by simp
      have g2:decide (m2<1)=true:=decide_eq_true hm0
      have g3:decide ((m2:Int)<1)=true:=decide_eq_true (by omega)
      go_wp2_with fail
      clear hw1 hw2 hbE1 hbE2 hbF2
      go_returns
      exact⟨ret_bool hno.out.symm,h9.out⟩
     ·have g1:((m2:Int) !=(m2:Int))=false:=by simp
      have g2:decide (m2<1)=false:=decide_eq_false hm0
      have g3:decide ((m2:Int)<1)=false:=decide_eq_false (by omega)
      obtain⟨k,rfl⟩: ∃ k,m2=k+1:=⟨m2-1,by omega⟩
      have hfd:Hid (fitsB M (kt:Int) arr dep=(decide (arr[0]?=dep[0]?)&&(decide (arr[k]?=dep[k]?)&&(List.range (k+1)).all (legB M.hz arr dep)))):=by
       show _=_;unfold fitsB
       rw [hl.out,show decide (k+1≠0)=true from decide_eq_true (by omega),haH.out.len,hdH.out.len,decide_eq_true rfl,Nat.add_sub_cancel];rfl
      have hall0:Hid (∀ j,j<0→legB M.hz arr dep j=true):=fun j hj=>absurd hj (by omega)
      have hb0:Hid (Below w9.heap.size w9 w9):=Below.refl _ _
      have v0H:=Lib.hid v0
      have y2H:=Lib.hid y2
      have y3H:=Lib.hid y3
      go_wp2_with fail
      clear hw1 hw2 hbE1 hbE2 hbF2 v0 y2 y3
      go_loopw [6] (fun iv wr=> ∃ i:Nat,i≤k+1∧iv= .int .i64 i∧Hid (Below w9.heap.size w9 wr)∧Hid (∀ j,j<i→legB M.hz arr dep j=true)) (fun iv _=>k+1-(intOf iv).toNat)
      case atStart=>exact⟨0,Nat.zero_le _,rfl,hb0,hall0⟩
      case round=>
       clear hb0 hall0
       obtain⟨i,hi,rfl,hb,hall⟩:=hrel
       have hbr:=h_ h9 hb.out
       have v0:=c_ hb.out l1 v0H.out
       have y2:=c_ hb.out l2 y2H.out
       have y3:=c_ hb.out l2 y3H.out
       have l1r:=Nat.lt_of_lt_of_le l1 hb.out.size
       have l2r:=Nat.lt_of_lt_of_le l2 hb.out.size
       by_cases hik:i<k+1
       ·have hiI:(i:Int)<(k:Int)+1:=by omega
        have hiJ:(i:Int)<((k+1:Nat):Int):=by omega
        obtain⟨bA,oA,a,rfl,hbA,hxa,ga⟩:=haH.out.num hik
        obtain⟨bD,oD,d,rfl,hbD,hxd,gd⟩:=hdH.out.num hik
        have hleg:=legB_eq hzH.out hxa hxd
        by_cases hok:legB M.hz arr dep i=true
        ·obtain⟨q1,q2,q3,q4⟩:=hleg.1 hok
         have e1:decide (a<0)=false:=decide_eq_false q1
         have e2:decide (M.hz<d)=false:=decide_eq_false q2
         have e3:decide (d<a)=false:=decide_eq_false q3
         have hall':Hid (∀ j,j<i+1→legB M.hz arr dep j=true):=fun j hj=>by
          rcases Nat.lt_or_ge j i with h|h
          ·exact hall.out j h
          ·obtain rfl:j=i:=by omega
           exact hok
         clear hleg hok q1 q2 q3 hall
         rcases Nat.eq_zero_or_pos i with hi0|hi0
         ·subst hi0
          simp only [Nat.add_zero] at ga gd
          have e4:decide ((0:Int)<((0:Nat):Int))=false:=by decide
          clear q4 hxa hxd
          go_wp2_with fail
          go_upto_region 9 with fail
          refine wp_region_below wr.heap.size (by kernel_rfl) (by kernel_rfl) ?_
          intro C hC
          repeat(go_big_quiet_step (first
           |((intro _;with_reducible rfl))
           |(intro hc;have hcw:=b_ hbr hc;have m0:=c_ hc l1r v0;have m1:=c_ hc l2r y2;have m2:=c_ hc l2r y3;have m3:=c_ hcw hbA ga;have m4:=c_ hcw hbD gd;simp only [m0,m1,m2,m3,m4,Result.andThen];exact⟨trivial,rfl⟩)
          ))
          refine wpQuiet_nil ?_
          intro w8 hb8
          clear hC
          have hbz:=h_ hb hb8
          clear hb8
          go_wp2_with fail
          go_roundw
          case rel=>exact⟨0+1,by omega,by go_num,hbz,hall'⟩
          case measure=>simp [intOf]
         ·obtain⟨i',rfl⟩: ∃ i',i=i'+1:=⟨i-1,by omega⟩
          obtain⟨bD',oD',p,hqD,_,hpx,gp⟩:=hdH.out.num (show i'<k+1 by omega)
          obtain⟨rfl,rfl⟩:bD=bD'∧oD=oD':=by simpa using hqD
          have hkp:decide ((0:Int)<((i'+1:Nat):Int))=true:=decide_eq_true (by omega)
          have hkpA:decide ((0:Int)<(i':Int)+1)=true:=decide_eq_true (by omega)
          have hkpB:decide (0<i'+1)=true:=decide_eq_true (by omega)
          have hkp2:IntKind.i64.wrap (((i'+1:Nat):Int)-1)=(i':Int):=by rw [show((i'+1:Nat):Int)-1=(i':Int) by omega];exact IntWalk.i64_in _ (by omega)
          have hiI':(i':Int)<((k+1:Nat):Int):=by omega
          have hiJ':(i':Int)<(k:Int)+1:=by omega
          clear hqD
          have e5:decide (a≤p)=false:=decide_eq_false (by rcases q4 with h|h;omega;exact h p hpx)
          clear q4 hxa hxd hpx
          go_wp2_with fail
          go_upto_region 9 with fail
          refine wp_region_below wr.heap.size (by kernel_rfl) (by kernel_rfl) ?_
          intro C hC
          repeat(go_big_quiet_step (first
           |((intro _;with_reducible rfl))
           |(intro hc;have hcw:=b_ hbr hc;have m0:=c_ hc l1r v0;have m1:=c_ hc l2r y2;have m2:=c_ hc l2r y3;have m3:=c_ hcw hbA ga;have m4:=c_ hcw hbD gd;have m5:=c_ hcw hbD gp;simp only [m0,m1,m2,m3,m4,m5,Result.andThen];exact⟨trivial,rfl⟩)
          ))
          refine wpQuiet_nil ?_
          intro w8 hb8
          clear hC
          have hbz:=h_ hb hb8
          clear hb8
          go_wp2_with fail
          go_roundw
          case rel=>exact⟨i'+1+1,by omega,by go_num,hbz,hall'⟩
          case measure=>simp [intOf];omega
        ·have hno:Hid (fitsB M (kt:Int) arr dep=false):=by show _=_;rw [hfd.out,all_no hik (by simpa using hok),Bool.and_false,Bool.and_false]
         have hx:a<0∨(¬ a<0∧M.hz<d)∨(¬ a<0∧ ¬ M.hz<d∧d<a)∨(¬ a<0∧ ¬ M.hz<d∧ ¬ d<a∧ ∃ i' p,i=i'+1∧dep[i']?=some p∧a≤p):=by
          by_cases q1:a<0
          ·exact .inl q1
          ·by_cases q2:M.hz<d
           ·exact .inr (.inl ⟨q1,q2⟩)
           ·by_cases q3:d<a
            ·exact .inr (.inr (.inl ⟨q1,q2,q3⟩))
            ·refine .inr (.inr (.inr ⟨q1,q2,q3,?_⟩))
             refine Classical.byContradiction fun hc=>hok (hleg.2 ⟨q1,q2,q3,?_⟩)
             rcases Nat.eq_zero_or_pos i with h|h
             ·exact .inl h
             ·exact .inr fun p hp hap=>hc ⟨i-1,p,by omega,hp,hap⟩
         clear hleg hok hall hxa hxd
         rcases hx with q1|⟨q1,q2⟩|⟨q1,q2,q3⟩|⟨q1,q2,q3,i',p,rfl,hpx,q4⟩
         ·have e1:decide (a<0)=true:=decide_eq_true q1
          go_wp2_with fail
          go_upto_region 9 with fail
          refine wp_region_below wr.heap.size (by kernel_rfl) (by kernel_rfl) ?_
          intro C hC
          repeat(go_big_quiet_step (first
           |((intro _;with_reducible rfl))
           |(intro hc;have hcw:=b_ hbr hc;have m0:=c_ hc l1r v0;have m1:=c_ hc l2r y2;have m2:=c_ hc l2r y3;have m3:=c_ hcw hbA ga;have m4:=c_ hcw hbD gd;simp only [m0,m1,m2,m3,m4,Result.andThen];exact⟨trivial,rfl⟩)
          ))
          refine wpQuiet_nil ?_
          intro w8 hb8
          clear hC
          have hbz:=h_ hbr hb8
          clear hb8
          go_wp2_with fail
          go_returns
          exact⟨ret_bool hno.out.symm,hbz.out⟩
         ·have e1:decide (a<0)=false:=decide_eq_false q1
          have e2:decide (M.hz<d)=true:=decide_eq_true q2
          go_wp2_with fail
          go_upto_region 9 with fail
          refine wp_region_below wr.heap.size (by kernel_rfl) (by kernel_rfl) ?_
          intro C hC
          repeat(go_big_quiet_step (first
           |((intro _;with_reducible rfl))
           |(intro hc;have hcw:=b_ hbr hc;have m0:=c_ hc l1r v0;have m1:=c_ hc l2r y2;have m2:=c_ hc l2r y3;have m3:=c_ hcw hbA ga;have m4:=c_ hcw hbD gd;simp only [m0,m1,m2,m3,m4,Result.andThen];exact⟨trivial,rfl⟩)
          ))
          refine wpQuiet_nil ?_
          intro w8 hb8
          clear hC
          have hbz:=h_ hbr hb8
          clear hb8
          go_wp2_with fail
          go_returns
          exact⟨ret_bool hno.out.symm,hbz.out⟩
         ·have e1:decide (a<0)=false:=decide_eq_false q1
          have e2:decide (M.hz<d)=false:=decide_eq_false q2
          have e3:decide (d<a)=true:=decide_eq_true q3
          go_wp2_with fail
          go_upto_region 9 with fail
          refine wp_region_below wr.heap.size (by kernel_rfl) (by kernel_rfl) ?_
          intro C hC
          repeat(go_big_quiet_step (first
           |((intro _;with_reducible rfl))
           |(intro hc;have hcw:=b_ hbr hc;have m0:=c_ hc l1r v0;have m1:=c_ hc l2r y2;have m2:=c_ hc l2r y3;have m3:=c_ hcw hbA ga;have m4:=c_ hcw hbD gd;simp only [m0,m1,m2,m3,m4,Result.andThen];exact⟨trivial,rfl⟩)
          ))
          refine wpQuiet_nil ?_
          intro w8 hb8
          clear hC
          have hbz:=h_ hbr hb8
          clear hb8
          go_wp2_with fail
          go_returns
          exact⟨ret_bool hno.out.symm,hbz.out⟩
         ·have e1:decide (a<0)=false:=decide_eq_false q1
          have e2:decide (M.hz<d)=false:=decide_eq_false q2
          have e3:decide (d<a)=false:=decide_eq_false q3
          obtain⟨bD',oD',p',hqD,_,hpx',gp⟩:=hdH.out.num (show i'<k+1 by omega)
          obtain⟨rfl,rfl⟩:bD=bD'∧oD=oD':=by simpa using hqD
          have hkp:decide ((0:Int)<((i'+1:Nat):Int))=true:=decide_eq_true (by omega)
          have hkpA:decide ((0:Int)<(i':Int)+1)=true:=decide_eq_true (by omega)
          have hkpB:decide (0<i'+1)=true:=decide_eq_true (by omega)
          have hkp2:IntKind.i64.wrap (((i'+1:Nat):Int)-1)=(i':Int):=by rw [show((i'+1:Nat):Int)-1=(i':Int) by omega];exact IntWalk.i64_in _ (by omega)
          have hiI':(i':Int)<((k+1:Nat):Int):=by omega
          have hiJ':(i':Int)<(k:Int)+1:=by omega
          obtain rfl:p=p':=Option.some.inj (hpx.symm.trans hpx')
          clear hqD hpx'
          have e5:decide (a≤p)=true:=decide_eq_true q4
          clear hpx
          go_wp2_with fail
          go_upto_region 9 with fail
          refine wp_region_below wr.heap.size (by kernel_rfl) (by kernel_rfl) ?_
          intro C hC
          repeat(go_big_quiet_step (first
           |((intro _;with_reducible rfl))
           |(intro hc;have hcw:=b_ hbr hc;have m0:=c_ hc l1r v0;have m1:=c_ hc l2r y2;have m2:=c_ hc l2r y3;have m3:=c_ hcw hbA ga;have m4:=c_ hcw hbD gd;have m5:=c_ hcw hbD gp;simp only [m0,m1,m2,m3,m4,m5,Result.andThen];exact⟨trivial,rfl⟩)
          ))
          refine wpQuiet_nil ?_
          intro w8 hb8
          clear hC
          have hbz:=h_ hbr hb8
          clear hb8
          go_wp2_with fail
          go_returns
          exact⟨ret_bool hno.out.symm,hbz.out⟩
       ·obtain rfl:i=k+1:=by omega
        have hrest:Hid (fitsB M (kt:Int) arr dep=(decide (arr[0]?=dep[0]?)&&decide (arr[k]?=dep[k]?))):=by show _=_;rw [hfd.out,all_yes fun j hj=>hall.out j hj,Bool.and_true]
        obtain⟨bA,oA,a,rfl,hbA,hxa,ga⟩:=haH.out.num (show 0<k+1 by omega)
        obtain⟨bD,oD,d,rfl,hbD,hxd,gd⟩:=hdH.out.num (show 0<k+1 by omega)
        obtain⟨bA',oA',ae,hqA,_,hxae,gae⟩:=haH.out.num (show k<k+1 by omega)
        obtain⟨bD',oD',de,hqD,_,hxde,gde⟩:=hdH.out.num (show k<k+1 by omega)
        obtain⟨rfl,rfl⟩:bA=bA'∧oA=oA':=by simpa using hqA
        obtain⟨rfl,rfl⟩:bD=bD'∧oD=oD':=by simpa using hqD
        have hrest2:Hid (fitsB M (kt:Int) arr dep=(decide (a=d)&&decide (ae=de))):=by
         show _=_;rw [hrest.out,hxa,hxd,hxae,hxde]
         congr 1<;>simp
        simp only [Nat.add_zero] at ga gd
        have hk1:IntKind.i64.wrap (((k+1:Nat):Int)-1)=(k:Int):=by rw [show((k+1:Nat):Int)-1=(k:Int) by omega];exact IntWalk.i64_in _ (by omega)
        have hk2:IntKind.i64.wrap ((k:Int)+1-1)=(k:Int):=by rw [show(k:Int)+1-1=(k:Int) by omega];exact IntWalk.i64_in _ (by omega)
        have hkI:(k:Int)<((k+1:Nat):Int):=by omega
        have hkJ:(k:Int)<(k:Int)+1:=by omega
        clear hxa hxd hxae hxde hqA hqD hrest hall hfd
        by_cases had:a=d
        ·subst had
         obtain⟨ve,hve⟩: ∃ v,(ae==de)=v:=⟨_,rfl⟩
         have hfin:Hid (ve=fitsB M (kt:Int) arr dep):=by show _=_;rw [hrest2.out,←hve,decide_eq_true rfl,Bool.true_and,Bool.eq_iff_iff];simp
         clear hrest2
         go_wp2_with fail
         go_upto_region 11 with fail
         refine wp_region_below wr.heap.size (by kernel_rfl) (by kernel_rfl) ?_
         intro C hC
         repeat(go_big_quiet_step (first
          |((intro _;with_reducible rfl))
          |(intro hc;have hcw:=b_ hbr hc;have m0:=c_ hc l2r y2;have m1:=c_ hc l2r y3;have m2:=c_ hcw hbA ga;have m3:=c_ hcw hbD gd;have m4:=c_ hcw hbA gae;have m5:=c_ hcw hbD gde;simp only [m0,m1,m2,m3,m4,m5,Result.andThen];exact⟨trivial,rfl⟩)
         ))
         refine wpQuiet_nil ?_
         intro w8 hb8
         clear hC
         have hbz:=h_ hbr hb8
         clear hb8
         go_wp2_with fail
         go_returns
         exact⟨ret_bool (by first|exact hfin.out|(rw [hve];exact hfin.out)),hbz.out⟩
        ·have hadf:(a==d)=false:=by simp [had]
         have hfin:Hid (fitsB M (kt:Int) arr dep=false):=by show _=_;rw [hrest2.out,decide_eq_false had,Bool.false_and]
         clear hrest2 had
         go_wp2_with fail
         go_upto_region 11 with fail
         refine wp_region_below wr.heap.size (by kernel_rfl) (by kernel_rfl) ?_
         intro C hC
         repeat(go_big_quiet_step (first
          |((intro _;with_reducible rfl))
          |(intro hc;have hcw:=b_ hbr hc;have m0:=c_ hc l2r y2;have m1:=c_ hc l2r y3;have m2:=c_ hcw hbA ga;have m3:=c_ hcw hbD gd;simp only [m0,m1,m2,m3,Result.andThen];exact⟨trivial,rfl⟩)
         ))
         refine wpQuiet_nil ?_
         intro w8 hb8
         clear hC
         have hbz:=h_ hbr hb8
         clear hb8
         go_wp2_with fail
         go_returns
         exact⟨ret_bool hfin.out.symm,hbz.out⟩
    ·have hno:Hid (fitsB M (kt:Int) arr dep=false):=by show _=_;unfold fitsB;rw [hl.out,show decide (dep.length=m1)=false from decide_eq_false (by rw [hdH.out.len];exact hm2)];simp
     have g1:((m1:Int) !=(m1:Int))=false:=by simp
     have g2:((m2:Int) !=(m1:Int))=true:=by simp;omega
     go_wp2_with fail
     clear hw1 hw2 hbE1 hbE2 hbF2
     go_returns
     exact⟨ret_bool hno.out.symm,h9.out⟩
   ·have hno:Hid (fitsB M (kt:Int) arr dep=false):=by show _=_;unfold fitsB;rw [hl.out,show decide (arr.length=nS)=false from decide_eq_false (by rw [haH.out.len];exact hm1)];simp
    have g1:((m1:Int) !=(nS:Int))=true:=by simp;omega
    go_wp2_with fail
    clear hw1 hw2 hbE1 hbE2 hbF2
    go_returns
    exact⟨ret_bool hno.out.symm,h9.out⟩
  ·have hno:Hid (fitsB M (kt:Int) arr dep=false):=by
    show _=_;unfold fitsB tripStops
    rw [if_neg ht0,Int.toNat_natCast,List.getElem?_eq_none (by rw [hnTH.out];omega)];rfl
   have hkTI:decide (nT≤kt)=true:=decide_eq_true (by omega)
   go_wp2_with fail
   clear hw1 hw2 hbE2 hbF2
   go_returns
   exact⟨ret_bool hno.out.symm,by first|exact hup.out|(rw [←hbE1];exact hup.out)⟩
theorem rFits_any (M:WorldP) (V:WV) (we:World) (hr:RW we M V) (hf:Few M) (t no:Int) (x1 x2:Option Addr) (m1 m2 d1 d2:Nat) (arr dep:List Int) (ha:Rd we 1 (numE .i64) x1 m1 arr) (hd:Rd we 1 (numE .i64) x2 m2 dep):
 Calls Tryz.prog 32 #[wVal M V,.agg #[.int .i64 t,.int .i64 no,.slice x1 m1 d1,.slice x2 m2 d2]] we fun e w'=>e= .returned (.int .i64 (if goodB nameB M&&fitsR M ⟨t,no,arr,dep⟩ then 0 else 2))∧Below we.heap.size we w':=by
 have hck:=Lib.hid (fun w h=>check9_any M V w h hf)
 have hft:=Lib.hid (fun w (h:RW w M V) hG hz ha hd=>rfits_any M V w h hG hf hz t no x1 x2 m1 m2 d1 d2 arr dep ha hd)
 obtain⟨a0,a1,a2,a3,a4,a5,aP,aD,aR,aT,aH,n0,n1,n2,n3,n4,n5,nP,nD,nR,nT,nH,c0,c1,c2,c3,c4,c5,cP,cD,cR,cT,cH⟩:=V
 simp only [wVal] at*
 have hrH:=Lib.hid hr
 have haH:=Lib.hid ha
 have hdH:=Lib.hid hd
 obtain⟨w1,w2,b1,b2,hw1,hw2,hbE1,hbE2,hbF2,hb1,hb2,hup,B1,B2,hge1,hge2⟩:=enter2 we 31 47 [.int .i64 M.hz,.slice a0 n0 c0,.slice a1 n1 c1,.slice a2 n2 c2,.slice a3 n3 c3,.slice a4 n4 c4,.slice a5 n5 c5,.slice aP nP cP,.slice aD nD cD,.slice aR nR cR,.slice aT nT cT,.slice aH nH cH] [.int .i64 t,.int .i64 no,.slice x1 m1 d1,.slice x2 m2 d2]
 obtain⟨p0,p1,p2,p3,p4,p5,p6,p7,p8,p9,p10,p11⟩:=c_12 B1
 obtain⟨y0,y1,y2,y3⟩:=c_4 B2
 have B1H:=Lib.hid B1
 have B2H:=Lib.hid B2
 clear B1 B2 hb1 hb2 hr ha hd
 cases hg:goodB nameB M with
 |false=>
  rw [Bool.false_and,if_neg (by simp)]
  have hgH:=Lib.hid hg
  clear hg
  have qF:=run_field_wrong
  go_enter Tryz.func32,Tryz.ntmps32
  go_wp2_with fail
  refine(hck.out w2 (hrH.out.below hup.out)).mono ?_;rintro e w3 ⟨c,k,a,rfl,hc,hb3⟩
  have hc0:(c !=0)=true:=by
   have:c≠0:=fun e=>by have:=hc.1 e;rw [hgH.out] at this;cases this
   simp [this]
  have hbz:=h_ hup hb3
  clear hc hb3
  go_wp2_with fail
  clear hw1 hw2 hbE1 hbE2 hbF2
  go_returns
  exact⟨rfl,hbz.out⟩
 |true=>
  have hgH:=Lib.hid hg
  rw [Bool.true_and]
  clear hg
  have hfd:Hid (fitsB M t arr dep=fitsR M ⟨t,no,arr,dep⟩):=rfl
  obtain⟨q,hq⟩: ∃ q,fitsR M ⟨t,no,arr,dep⟩=q:=⟨_,rfl⟩
  rw [hq] at hfd ⊢
  clear hq
  have hfq:=Lib.hid (fun w h hG hz ha hd=>by have:=hft.out w h hG hz ha hd;rw [hfd.out] at this;exact this)
  clear hft hfd
  cases q with
  |false=>
   rw [if_neg (by simp)]
   have qF:=run_field_wrong
   go_enter Tryz.func32,Tryz.ntmps32
   go_wp2_with fail
   refine(hck.out w2 (hrH.out.below hup.out)).mono ?_;rintro e w3 ⟨c,k,a,rfl,hc,hb3⟩
   obtain rfl:c=0:=hc.2 hgH.out
   have hbz:=h_ hup hb3
   obtain⟨z0,z1,z2,z3,z4,z5,z6,z7,z8,z9,z10,z11⟩:=c_12 (B1H.out.below hb3)
   obtain⟨zr0,zr1,zr2,zr3⟩:=c_4 (B2H.out.below hb3)
   clear hc hb3 p0 p1 p2 p3 p4 p5 p6 p7 p8 p9 p10 p11 y0 y1 y2 y3
   go_wp2_with fail
   refine(hfq.out w3 (hrH.out.below hbz.out) (goodW_rt (goodW_of hgH.out)) (goodW_of hgH.out).hz.2 (haH.out.below hbz.out) (hdH.out.below hbz.out)).mono ?_;rintro e w4 ⟨rfl,hb4⟩
   have hby:=h_ hbz hb4
   clear hb4
   go_wp2_with fail
   clear hw1 hw2 hbE1 hbE2 hbF2
   go_returns
   exact⟨rfl,hby.out⟩
  |true=>
   rw [if_pos rfl]
   have qF:=run_field_wrong
   go_enter Tryz.func32,Tryz.ntmps32
   go_wp2_with fail
   refine(hck.out w2 (hrH.out.below hup.out)).mono ?_;rintro e w3 ⟨c,k,a,rfl,hc,hb3⟩
   obtain rfl:c=0:=hc.2 hgH.out
   have hbz:=h_ hup hb3
   obtain⟨z0,z1,z2,z3,z4,z5,z6,z7,z8,z9,z10,z11⟩:=c_12 (B1H.out.below hb3)
   obtain⟨zr0,zr1,zr2,zr3⟩:=c_4 (B2H.out.below hb3)
   clear hc hb3 p0 p1 p2 p3 p4 p5 p6 p7 p8 p9 p10 p11 y0 y1 y2 y3
   go_wp2_with fail
   refine(hfq.out w3 (hrH.out.below hbz.out) (goodW_rt (goodW_of hgH.out)) (goodW_of hgH.out).hz.2 (haH.out.below hbz.out) (hdH.out.below hbz.out)).mono ?_;rintro e w4 ⟨rfl,hb4⟩
   have hby:=h_ hbz hb4
   clear hb4
   go_wp2_with fail
   clear hw1 hw2 hbE1 hbE2 hbF2
   go_returns
   exact⟨rfl,hby.out⟩
theorem all_bad {M:WorldP} {L:List RunP} {i:Nat} {r:RunP} (hr:L[i]?=some r) (h:fitsR M r=false):(goodB nameB M&&L.all (fitsR M))=false:=by
 rw [Bool.and_eq_false_iff];right
 rw [List.all_eq_false]
 exact⟨r,List.mem_of_getElem? hr,by rw [h];simp⟩
theorem rall_any (M:WorldP) (V:WV) (A:Option Addr) (n c:Nat) (L:List RunP) (we:World) (hr:RW we M V) (hf:Few M) (hL:RRuns we A n L) (hn:n≤100000):
 Calls Tryz.prog 76 #[wVal M V,.slice A n c] we fun e w'=>e= .returned (.int .i64 (errC M L))∧Below we.heap.size we w':=by
 have hck:=Lib.hid (fun w h=>check9_any M V w h hf)
 have hft:=Lib.hid (fun w (h:RW w M V) hG hz t no x1 x2 m1 m2 d1 d2 arr dep ha hd=>rfits_any M V w h hG hf hz t no x1 x2 m1 m2 d1 d2 arr dep ha hd)
 obtain⟨a0,a1,a2,a3,a4,a5,aP,aD,aR,aT,aH,n0,n1,n2,n3,n4,n5,nP,nD,nR,nT,nH,c0,c1,c2,c3,c4,c5,cP,cD,cR,cT,cH⟩:=V
 have hrH:=Lib.hid hr
 have hLH:=Lib.hid hL
 have hLn:=Lib.hid hL.len
 simp only [wVal] at*
 obtain⟨w1,b1,hw1,hbE1,hb1,hup,B1,hge1⟩:=enter1 we 31 [.int .i64 M.hz,.slice a0 n0 c0,.slice a1 n1 c1,.slice a2 n2 c2,.slice a3 n3 c3,.slice a4 n4 c4,.slice a5 n5 c5,.slice aP nP cP,.slice aD nD cD,.slice aR nR cR,.slice aT nT cT,.slice aH nH cH]
 obtain⟨p0,p1,p2,p3,p4,p5,p6,p7,p8,p9,p10,p11⟩:=c_12 B1
 have B1H:=Lib.hid B1
 clear B1 hb1 hr hL
 go_enter Tryz.func76,Tryz.ntmps76
 by_cases hlong:16384<n
 ·have he:Hid (errC M L=3):=errC_long (by rw [hLn.out];exact hlong)
  have hl:decide (16384<n)=true:=decide_eq_true hlong
  have hlI:decide ((16384:Int)<(n:Int))=true:=decide_eq_true (by omega)
  go_wp2_with fail
  clear hw1 hbE1
  go_returns
  exact⟨ret_int he.out.symm,hup.out⟩
 ·have hl:decide (16384<n)=false:=decide_eq_false hlong
  have hlI:decide ((16384:Int)<(n:Int))=false:=decide_eq_false (by omega)
  have qF:=run_field_wrong
  go_wp2_with fail
  refine(hck.out w1 (hrH.out.below hup.out)).mono ?_;rintro e w3 ⟨cc,k,a,rfl,hc,hb3⟩
  have h3:=h_ hup hb3
  have B13:=Lib.hid (B1H.out.below hb3)
  cases hg:goodB nameB M with
  |false=>
   have hc0:(cc !=0)=true:=by
    have:cc≠0:=fun e=>by have:=hc.1 e;rw [hg] at this;cases this
    simp [this]
   have he:Hid (errC M L=2):=errC_bad (by rw [hLn.out];exact hlong) (by rw [hg,Bool.false_and])
   clear hc hb3 hg p0 p1 p2 p3 p4 p5 p6 p7 p8 p9 p10 p11
   go_wp2_with fail
   clear hw1 hbE1
   go_returns
   exact⟨ret_int he.out.symm,h3.out⟩
  |true=>
   obtain rfl:cc=0:=hc.2 hg
   have hgw:=Lib.hid (goodW_of hg)
   have hgH:=Lib.hid hg
   have hfr:=Lib.hid (fun w (h:RW w M _)=>hft.out w h (goodW_rt hgw.out) hgw.out.hz.2)
   have hb0:Hid (Below w3.heap.size w3 w3):=Below.refl _ _
   have ha0:Hid (∀ j r,j<0→L[j]?=some r→fitsR M r=true):=fun j r hj=>absurd hj (by omega)
   clear hc hb3 hg p0 p1 p2 p3 p4 p5 p6 p7 p8 p9 p10 p11 hft hck
   go_wp2_with fail
   clear hw1 hbE1
   go_loopw [5] (fun iv wr=> ∃ i:Nat,i≤n∧iv= .int .i64 i∧Hid (Below w3.heap.size w3 wr)∧Hid (∀ j r,j<i→L[j]?=some r→fitsR M r=true)) (fun iv _=>n-(intOf iv).toNat)
   case atStart=>exact⟨0,Nat.zero_le _,rfl,hb0,ha0⟩
   case round=>
    clear hb0 ha0
    obtain⟨i,hi,rfl,hb,hall⟩:=hrel
    have hbr:=h_ h3 hb.out
    by_cases hin:i<n
    ·have hinI:(i:Int)<(n:Int):=by omega
     obtain⟨bL,oL,r,A1,n1,e1,A2,n2,e2,rfl,hbL,hr1,t0,t1,t2,t3,ra1,ra2,_,_⟩:=hLH.out.get hin
     have B1r:=Lib.hid (B13.out.below hb.out)
     obtain⟨p0,p1,p2,p3,p4,p5,p6,p7,p8,p9,p10,p11⟩:=c_12 B1r.out
     have l1r:=B1r.out.lt
     have hfit:=Lib.hid (fun w (h:Below we.heap.size we w)=>hfr.out w (hrH.out.below h) r.trip r.no A1 A2 n1 n2 e1 e2 r.arr r.dep (ra1.below h) (ra2.below h))
     have efr:fitsB M r.trip r.arr r.dep=fitsR M r:=rfl
     rw [efr] at hfit
     obtain⟨rt,hrt⟩: ∃ q,r.trip=q:=⟨_,rfl⟩
     obtain⟨rn,hrn⟩: ∃ q,r.no=q:=⟨_,rfl⟩
     rw [hrt] at t0 hfit
     rw [hrn] at t1 hfit
     have hr1H:=Lib.hid hr1
     cases hv:fitsR M r with
     |false=>
      rw [hv] at hfit
      have he:Hid (errC M L=2):=errC_bad (by rw [hLn.out];exact hlong) (all_bad hr1 hv)
      clear hr1 ra1 ra2 efr hv hall hrt hrn
      go_wp2_with fail
      go_upto_region 8 with fail
      refine wp_region_below wr.heap.size (by kernel_rfl) (by kernel_rfl) ?_
      intro C hC
      repeat(go_big_quiet_step (first
       |((intro _;with_reducible rfl))
       |(intro hc;have hcw:=b_ hbr hc;have m0:=c_ hc l1r p0;have m1:=c_ hc l1r p1;have m2:=c_ hc l1r p2;have m3:=c_ hc l1r p3;have m4:=c_ hc l1r p4;have m5:=c_ hc l1r p5;have m6:=c_ hc l1r p6;have m7:=c_ hc l1r p7;have m8:=c_ hc l1r p8;have m9:=c_ hc l1r p9;have m10:=c_ hc l1r p10;have m11:=c_ hc l1r p11;have m12:=c_ hcw hbL t0;have m13:=c_ hcw hbL t1;have m14:=c_ hcw hbL t2;have m15:=c_ hcw hbL t3;simp only [m0,m1,m2,m3,m4,m5,m6,m7,m8,m9,m10,m11,m12,m13,m14,m15,Result.andThen];exact⟨trivial,rfl⟩)
       |(intro hc;have hcw:=b_ hbr hc;(with_reducible refine(hfit.out _ hcw).mono ?_);rintro e w'' ⟨rfl,hw⟩;exact⟨rfl,u_ hc hw⟩)))
      refine wpQuiet_nil ?_
      intro w9 hb9
      clear hC
      have hbz:=h_ hbr hb9
      clear hb9
      go_wp2_with fail
      go_returns
      exact⟨ret_int he.out.symm,hbz.out⟩
     |true=>
      rw [hv] at hfit
      have hall':Hid (∀ j r,j<i+1→L[j]?=some r→fitsR M r=true):=fun j r' hj hr'=>by
       rcases Nat.lt_or_ge j i with h|h
       ·exact hall.out j r' h hr'
       ·obtain rfl:j=i:=by omega
        obtain rfl:=Option.some.inj (hr1.symm.trans hr')
        exact hv
      clear hr1 ra1 ra2 efr hv hall hrt hrn
      go_wp2_with fail
      go_upto_region 8 with fail
      refine wp_region_below wr.heap.size (by kernel_rfl) (by kernel_rfl) ?_
      intro C hC
      repeat(go_big_quiet_step (first
       |((intro _;with_reducible rfl))
       |(intro hc;have hcw:=b_ hbr hc;have m0:=c_ hc l1r p0;have m1:=c_ hc l1r p1;have m2:=c_ hc l1r p2;have m3:=c_ hc l1r p3;have m4:=c_ hc l1r p4;have m5:=c_ hc l1r p5;have m6:=c_ hc l1r p6;have m7:=c_ hc l1r p7;have m8:=c_ hc l1r p8;have m9:=c_ hc l1r p9;have m10:=c_ hc l1r p10;have m11:=c_ hc l1r p11;have m12:=c_ hcw hbL t0;have m13:=c_ hcw hbL t1;have m14:=c_ hcw hbL t2;have m15:=c_ hcw hbL t3;simp only [m0,m1,m2,m3,m4,m5,m6,m7,m8,m9,m10,m11,m12,m13,m14,m15,Result.andThen];exact⟨trivial,rfl⟩)
       |(intro hc;have hcw:=b_ hbr hc;(with_reducible refine(hfit.out _ hcw).mono ?_);rintro e w'' ⟨rfl,hw⟩;exact⟨rfl,u_ hc hw⟩)))
      refine wpQuiet_nil ?_
      intro w9 hb9
      clear hC
      have hbz:=h_ hb hb9
      clear hb9
      go_wp2_with fail
      go_roundw
      case rel=>exact⟨i+1,by omega,by go_num,hbz,hall'⟩
      case measure=>simp [intOf];omega
    ·have he:Hid (errC M L=0):=errC_ok (by rw [hLn.out];exact hlong) hgH.out (List.all_eq_true.2 fun r hr=>by
      obtain⟨j,hj⟩:=List.getElem?_of_mem hr
      exact hall.out j r (by have:=(List.getElem?_eq_some_iff.1 hj).1;have:=hLn.out;omega) hj)
     go_wp2_with fail
     go_returns
     exact⟨ret_int he.out.symm,hbr.out⟩
theorem rless_any (a b:ConnP) (w:World):Calls Tryz.prog 31 #[.agg (connE a).toArray,.agg (connE b).toArray] w fun e w'=>e= .returned (.bool (ltC a b))∧Below w.heap.size w w':=by
 obtain⟨x1,x2,x3,x4,x5,x6⟩:=a
 obtain⟨y1,y2,y3,y4,y5,y6⟩:=b
 simp only [connE]
 obtain⟨w1,w2,b1,b2,hw1,hw2,hbE1,hbE2,hbF2,hb1,hb2,hup,B1,B2,hge1,hge2⟩:=enter2 w 42 42 [.int .i64 x1,.int .i64 x2,.int .i64 x3,.int .i64 x4,.int .i64 x5,.int .i64 x6] [.int .i64 y1,.int .i64 y2,.int .i64 y3,.int .i64 y4,.int .i64 y5,.int .i64 y6]
 obtain⟨p0,p1,p2,p3,p4,p5⟩:=c_6 B1
 obtain⟨q0,q1,q2,q3,q4,q5⟩:=c_6 B2
 clear hb1 hb2 B1 B2
 obtain⟨v,hv⟩: ∃ v,ltC ⟨x1,x2,x3,x4,x5,x6⟩ ⟨y1,y2,y3,y4,y5,y6⟩=v:=⟨_,rfl⟩
 rw [hv]
 have hvH:=Lib.hid hv
 clear hv
 go_enter Tryz.func31,Tryz.ntmps31
 by_cases e1:x1=y1
 ·by_cases e2:x2=y2
  ·by_cases e5:x5=y5
   ·subst e1 e2 e5
    have hf:Hid (decide (x6<y6)=v):=by show _=_;rw [←hvH.out,Bool.eq_iff_iff,decide_eq_true_eq,ltC_iff];(try simp only [Int.lt_irrefl,false_or,true_and])<;>omega
    go_wp2_with fail
    clear hw1 hw2 hbE1 hbE2 hbF2
    go_returns
    exact⟨ret_bool hf.out,hup.out⟩
   ·subst e1 e2
    have n5:(x5 !=y5)=true:=by simp [e5]
    have hf:Hid (decide (x5<y5)=v):=by show _=_;rw [←hvH.out,Bool.eq_iff_iff,decide_eq_true_eq,ltC_iff];(try simp only [Int.lt_irrefl,false_or,true_and])<;>omega
    go_wp2_with fail
    clear hw1 hw2 hbE1 hbE2 hbF2
    go_returns
    exact⟨ret_bool hf.out,hup.out⟩
  ·subst e1
   have n2:(x2 !=y2)=true:=by simp [e2]
   have hf:Hid (decide (x2<y2)=v):=by show _=_;rw [←hvH.out,Bool.eq_iff_iff,decide_eq_true_eq,ltC_iff];(try simp only [Int.lt_irrefl,false_or,true_and])<;>omega
   go_wp2_with fail
   clear hw1 hw2 hbE1 hbE2 hbF2
   go_returns
   exact⟨ret_bool hf.out,hup.out⟩
 ·have n1:(x1 !=y1)=true:=by simp [e1]
  have hf:Hid (decide (x1<y1)=v):=by show _=_;rw [←hvH.out,Bool.eq_iff_iff,decide_eq_true_eq,ltC_iff];(try simp only [Int.lt_irrefl,false_or,true_and])<;>omega
  go_wp2_with fail
  clear hw1 hw2 hbE1 hbE2 hbF2
  go_returns
  exact⟨ret_bool hf.out,hup.out⟩
theorem rfirst_any (A:Option Addr) (n c:Nat) (l:List ConnP) (t:Int) (we:World) (hr:Rd we 6 connE A n l) (hn:n≤1099511627776):Calls Tryz.prog 33 #[.slice A n c,.int .i64 t] we fun e w'=>e= .returned (.int .i64 (firstC l t))∧Below we.heap.size we w':=by
 have hrH:=Lib.hid hr
 have hlen:Hid (l.length=n):=hr.len
 clear hr
 go_enter Tryz.func33,Tryz.ntmps33
 go_wp2_with fail
 go_loopw [5] (fun iv wr=> ∃ k:Nat,k≤n∧iv= .int .i64 k∧wr=we∧Hid (k≤firstC l t)) (fun iv _=>n-(intOf iv).toNat)
 case atStart=>exact⟨0,Nat.zero_le _,rfl,rfl,Nat.zero_le _⟩
 case round=>
  obtain⟨k,hk,rfl,rfl,hle⟩:=hrel
  by_cases hkn:k<n
  ·have hkI:(k:Int)<(n:Int):=by omega
   obtain⟨b,o,x,rfl,hb,hx,hc⟩:=hrH.out.get hkn
   have g0:=hc 0 _ rfl
   simp only [Nat.add_zero] at g0
   by_cases hlt:x.dep<t
   ·have hd:decide (x.dep<t)=true:=decide_eq_true hlt
    have hle':Hid (k+1≤firstC l t):=by
     rcases Nat.lt_or_ge k (firstC l t) with h|h
     ·exact h
     ·have e:firstC l t=k:=by have:=hle.out;omega
      have:=firstC_at t l x (by rw [e];exact hx)
      omega
    clear hx hc hle
    go_wp2_with fail
    go_roundw
    case rel=>exact⟨k+1,by omega,by go_num,trivial,hle'⟩
    case measure=>simp [intOf];omega
   ·have hd:decide (x.dep<t)=false:=decide_eq_false hlt
    have he:Hid ((k:Int)=(firstC l t:Int)):=by
     rcases Nat.lt_or_ge k (firstC l t) with h|h
     ·exact absurd (firstC_low t l k x h hx) hlt
     ·have:=hle.out;show _=_;omega
    clear hx hc hle
    go_wp2_with fail
    go_returns
    exact⟨ret_int he.out,Below.refl _ _⟩
  ·have he:Hid ((k:Int)=(firstC l t:Int)):=by have h1:=firstC_le t l;have:=hle.out;have:=hlen.out;show _=_;omega
   clear hle
   go_wp2_with fail
   go_returns
   exact⟨ret_int he.out,Below.refl _ _⟩
theorem rsome_any (g:ConnP→Int) (wh:Int) (hsel: ∀ (x:ConnP) (W:World),(Instr.index 148 (.agg #[.int .i64 x.fr,.int .i64 x.to_,.int .i64 x.run]) (.int .i64 wh)).run Tryz.prog W= .ok (.int .i64 (g x)) W)
 (A:Option Addr) (n c:Nat) (l:List ConnP) (t:Int) (we:World) (hr:Rd we 6 connE A n l) (hn:n≤100000):Calls Tryz.prog 79 #[.slice A n c,.int .i64 wh,.int .i64 t] we (RetC (l.filter fun c=>g c==t) we):=by
 have hrH:=Lib.hid hr
 have hlen:Hid (l.length=n):=hr.len
 have hselH:=Lib.hid hsel
 have own0:Hid (we.ownsRow we.heap.size 42 6 (.slice none 0 0) ((l.take 0).filter fun c=>g c==t).length (((l.take 0).filter fun c=>g c==t).flatMap connE)):=World.ownsRow_nil _ _ _ _
 clear hr hsel
 go_enter Tryz.func79,Tryz.ntmps79
 go_wp2_with fail
 go_loopw [7,8] (fun v iv wr=> ∃ k:Nat,k≤n∧iv= .int .i64 k∧Hid (wr.ownsRow we.heap.size 42 6 v ((l.take k).filter fun c=>g c==t).length (((l.take k).filter fun c=>g c==t).flatMap connE))∧Hid (Below we.heap.size we wr)) (fun _ iv _=>n-(intOf iv).toNat)
 case atStart=>exact⟨0,Nat.zero_le _,rfl,own0,Below.refl _ _⟩
 case round=>
  clear own0
  obtain⟨k,hk,rfl,own,hb⟩:=hrel
  by_cases hkn:k<n
  ·have hkI:(k:Int)<(n:Int):=by omega
   obtain⟨b,o,x,rfl,hbs,hx,hc⟩:=hrH.out.get hkn
   have hsx:=hselH.out x
   have hflt:((l.take (k+1)).filter fun c=>g c==t)=((l.take k).filter fun c=>g c==t)++if(g x==t)=true then [x] else []:=by
    rw [take_at hx,List.filter_append,List.filter_cons,List.filter_nil]
   have hcnt:((l.take k).filter fun c=>g c==t).length ≤k:=Nat.le_trans (List.length_filter_le _ _) (by rw [List.length_take];omega)
   obtain⟨gx,hgx⟩: ∃ q,g x=q:=⟨_,rfl⟩
   rw [hgx] at hsx
   obtain⟨x1,x2,x3,x4,x5,x6⟩:=x
   have g0:=hc 0 _ rfl
   have g1:=hc 1 _ rfl
   have g2:=hc 2 _ rfl
   have g3:=hc 3 _ rfl
   have g4:=hc 4 _ rfl
   have g5:=hc 5 _ rfl
   simp only [Nat.add_zero] at g0
   have hgxH:=Lib.hid hgx
   have hfH:=Lib.hid hflt
   have hsxH:=Lib.hid hsx
   clear hc hx hflt hgx hsx
   by_cases hgt:gx=t
   ·have hq:(gx==t)=true:=by simp [hgt]
    have hfl:Hid (((l.take (k+1)).filter fun c=>g c==t)=((l.take k).filter fun c=>g c==t)++[⟨x1,x2,x3,x4,x5,x6⟩]):=by show _=_;rw [hfH.out,hgxH.out,if_pos hq]
    subst hgt
    clear hfH
    go_wp2_with fail
    go_upto_region 5 with fail
    refine wp_region_below wr.heap.size (by kernel_rfl) (by kernel_rfl) ?_
    intro C hC
    repeat(go_big_quiet_step (first
     |((intro _;with_reducible rfl))
     |(intro hc;have hcw:=b_ hb hc;have m0:=c_ hcw hbs g2;have m1:=c_ hcw hbs g3;have m2:=c_ hcw hbs g4;simp only [m0,m1,m2,Result.andThen];exact⟨trivial,rfl⟩)
     |(intro hc;simp only [hsxH.out,Result.andThen];exact⟨trivial,rfl⟩)))
    refine wpQuiet_nil ?_
    intro w9 hb9
    clear hC
    have hb5:=h_ hb hb9
    have own5:=own_below own.out hb9
    have m0:=c_ hb5.out hbs g0
    have m1:=c_ hb5.out hbs g1
    have m2:=c_ hb5.out hbs g2
    have m3:=c_ hb5.out hbs g3
    have m4:=c_ hb5.out hbs g4
    have m5:=c_ hb5.out hbs g5
    obtain⟨gg,cc,w8,hrun,own8,hgr,_⟩:=append_one (enc:=connE) Tryz.underlying37 info_tConn rfl (by decide) connE_len connE_one w9 we.heap.size _ _ ⟨x1,x2,x3,x4,x5,x6⟩ own5 (by omega) (by decide) hb5.out.size
    have ha:=(Below.refl w9.heap.size w9).alloc (Nat.le_refl _) (.cells (connE ⟨x1,x2,x3,x4,x5,x6⟩).toArray 42)
    have hb8:Hid (Below we.heap.size we w8):=(b_ hb5 ha).grown hgr (Nat.le_trans hb5.out.size ha.size) (fun q hq=>(own5.lt q hq).1)
    rw [←hfl.out] at own8
    have own8:=Lib.hid own8
    have hln:Hid (((l.take k).filter fun c=>g c==gx).length +1=((l.take (k+1)).filter fun c=>g c==gx).length):=by show _=_;rw [hfl.out];simp
    rw [hln.out] at hrun own8
    simp only [connE] at hrun
    rename_i ownX
    clear ownX own own5 hgr ha hb9 hfl g0 g1 g2 g3 g4 g5
    go_wp2_with (at_builtin;refine wpList_append_run ?P1 (.tmp 35) (.tmp 40) 37 ?P2 ?P3 ?P4 hrun ?_)
    all_goals try rfl
    go_roundw
    case rel=>exact⟨k+1,by omega,by go_num,own8,hb8⟩
    case measure=>simp [intOf];omega
   ·have hq:(gx==t)=false:=by simp [hgt]
    have hfl:Hid (((l.take (k+1)).filter fun c=>g c==t)=((l.take k).filter fun c=>g c==t)):=by show _=_;rw [hfH.out,hgxH.out,if_neg (by simp [hq]),List.append_nil]
    clear hfH hgt
    go_wp2_with fail
    go_upto_region 5 with fail
    refine wp_region_below wr.heap.size (by kernel_rfl) (by kernel_rfl) ?_
    intro C hC
    repeat(go_big_quiet_step (first
     |((intro _;with_reducible rfl))
     |(intro hc;have hcw:=b_ hb hc;have m0:=c_ hcw hbs g2;have m1:=c_ hcw hbs g3;have m2:=c_ hcw hbs g4;simp only [m0,m1,m2,Result.andThen];exact⟨trivial,rfl⟩)
     |(intro hc;simp only [hsxH.out,Result.andThen];exact⟨trivial,rfl⟩)))
    refine wpQuiet_nil ?_
    intro w9 hb9
    clear hC
    have hb5:=h_ hb hb9
    have own5:=own_below own.out hb9
    rw [←hfl.out] at own5
    have own5:=Lib.hid own5
    rename_i ownX
    clear ownX own hb9
    go_wp2_with fail
    go_roundw
    case rel=>exact⟨k+1,by omega,by go_num,own5,hb5⟩
    case measure=>simp [intOf];omega
  ·have own':=own.out
   rw [List.take_of_length_le (by rw [hlen.out];omega)] at own'
   obtain⟨A',c',rfl,r1,r2,r3⟩:=Rd.of_own connE_len rfl own'
   have r1:=Lib.hid r1
   clear own own'
   go_wp2_with fail
   go_returns
   exact⟨_,_,rfl,r1.out,r2,r3,hb.out⟩
theorem rfrom_any (A:Option Addr) (n c:Nat) (l:List ConnP) (t:Int) (we:World) (hr:Rd we 6 connE A n l) (hn:n≤100000):Calls Tryz.prog 34 #[.slice A n c,.int .i64 t] we (RetC (l.filter fun c=>c.fr==t) we):=by
 have h:=Lib.hid (rsome_any ConnP.fr 0 (fun x W=>by kernel_rfl) A n c l t we hr hn)
 clear hr
 go_enter Tryz.func34,Tryz.ntmps34
 go_wp2_with fail
 refine h.out.mono ?_;rintro e w2 ⟨A',c',rfl,h1,h2,h3,h4⟩
 have h1:=Lib.hid h1
 have h4:=Lib.hid h4
 rename_i hx1 hx2
 clear hx1 hx2
 go_wp2_with fail
 go_returns
 exact⟨_,_,rfl,h1.out,h2,h3,h4.out⟩
theorem rto_any (A:Option Addr) (n c:Nat) (l:List ConnP) (t:Int) (we:World) (hr:Rd we 6 connE A n l) (hn:n≤100000):Calls Tryz.prog 35 #[.slice A n c,.int .i64 t] we (RetC (l.filter fun c=>c.to_==t) we):=by
 have h:=Lib.hid (rsome_any ConnP.to_ 1 (fun x W=>by kernel_rfl) A n c l t we hr hn)
 clear hr
 go_enter Tryz.func35,Tryz.ntmps35
 go_wp2_with fail
 refine h.out.mono ?_;rintro e w2 ⟨A',c',rfl,h1,h2,h3,h4⟩
 have h1:=Lib.hid h1
 have h4:=Lib.hid h4
 rename_i hx1 hx2
 clear hx1 hx2
 go_wp2_with fail
 go_returns
 exact⟨_,_,rfl,h1.out,h2,h3,h4.out⟩
theorem rof_any (A:Option Addr) (n c:Nat) (l:List ConnP) (t:Int) (we:World) (hr:Rd we 6 connE A n l) (hn:n≤100000):Calls Tryz.prog 36 #[.slice A n c,.int .i64 t] we (RetC (l.filter fun c=>c.run==t) we):=by
 have h:=Lib.hid (rsome_any ConnP.run 2 (fun x W=>by kernel_rfl) A n c l t we hr hn)
 clear hr
 go_enter Tryz.func36,Tryz.ntmps36
 go_wp2_with fail
 refine h.out.mono ?_;rintro e w2 ⟨A',c',rfl,h1,h2,h3,h4⟩
 have h1:=Lib.hid h1
 have h4:=Lib.hid h4
 rename_i hx1 hx2
 clear hx1 hx2
 go_wp2_with fail
 go_returns
 exact⟨_,_,rfl,h1.out,h2,h3,h4.out⟩
end Go.Proofs.YtechdefolfboeaaGreatDoor
