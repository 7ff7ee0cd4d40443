/- Merged. -/
import Derived.Test.YtechdefolfboeaaGreatDoorPo22
set_option linter.unusedVariables false
set_option linter.unusedSimpArgs false
set_option maxRecDepth 100000
set_option maxHeartbeats 2000000
namespace Go.Proofs.YtechdefolfboeaaGreatDoor
open Go.RowKit B K
def tripStops (M:WorldP) (t:Int):List Int:=if t<0 then [] else match M.trips[t.toNat]? with
 |none=>[]
 |some q=>match M.routes[q.route.toNat]? with
  |none=>[]
  |some r=>r.stops
def RetSt (l:List Int) (we:World) (e:Ending) (w':World):Prop:= ∃ A n c,e= .returned (.slice A n c)∧Rd we 1 (numE .i64) A n l∧Below we.heap.size we w'
def RetSt0 (l:List Int) (w0 we:World) (e:Ending) (w':World):Prop:= ∃ A n c,e= .returned (.slice A n c)∧Rd w0 1 (numE .i64) A n l∧Below we.heap.size we w'
theorem cstops_at (M:WorldP) (V:WV) (w0 we:World) (hbe:Below w0.heap.size w0 we) (hr:RW w0 M V) (hG: ∀ q∈M.trips,0≤q.route∧q.route<(M.routes.length:Int)) (hf:Few M) (t no:Int) (x1 x2:Option Addr) (m1 m2 d1 d2:Nat):
 Calls Tryz.prog 97 #[wVal M V,.agg #[.int .i64 t,.int .i64 no,.slice x1 m1 d1,.slice x2 m2 d2]] we (RetSt0 (tripStops M t) w0 we):=by
 obtain⟨a0,a1,a2,a3,a4,a5,aP,aD,aR,aT,aH,n0,n1,n2,n3,n4,n5,nP,nD,nR,nT,nH,c0,c1,c2,c3,c4,c5,cP,cD,cR,cT,cH⟩:=V;have hrH:=H_ hr;have hLT:M.trips.length=nT:=hr.rT.len;have hLR:M.routes.length=nR:=hr.rR.len;have mT:nT≤100000:=by rw [←hLT];exact hf.sT
 have mR:nR≤100000:=by rw [←hLR];exact hf.sR
 simp only [wVal];obtain⟨w1,w2,b1,b2,hw1,hw2,hbE1,hbE2,hbF2,hb1,hb2,hup,B1,B2,hge1,hge2⟩:=enter2 we 31 47 [.int .i64 M.hz,.slice a0 n0 c0,.slice a1 n1 c1,.slice a2 n2 c2,.slice a3 n3 c3,.slice a4 n4 c4,.slice a5 n5 c5,.slice aP nP cP,.slice aD nD cD,.slice aR nR cR,.slice aT nT cT,.slice aH nH cH] [.int .i64 t,.int .i64 no,.slice x1 m1 d1,.slice x2 m2 d2];have hup0:Hid (Below w0.heap.size w0 w2):=u_ hbe hup.out;obtain⟨p0,p1,p2,p3,p4,p5,p6,p7,p8,p9,p10,p11⟩:=c_12 B1;have y0:=B2.cell 0 rfl;have l1:=B1.lt;have l2:=B2.lt;have B1H:=H_ B1;have B2H:=H_ B2;clear B1 B2 hb1 hb2;by_cases h0:t<0
 ·have g0:decide (t<0)=true:=T_ h0;have hn:Hid (tripStops M t=[]):=by show _=_;unfold tripStops;rw [if_pos h0]
  rw [hn.out];clear hr hLT hLR;go_enter Tryz.func97,Tryz.ntmps97;go_wp2_with fail;clear hw1 hw2 hbE1 hbE2 hbF2;go_returns;exact⟨_,_,_,rfl,⟨rfl,fun h=>absurd h (by omega)⟩,hup.out⟩
 ·have g0:decide (t<0)=false:=F_ h0;obtain⟨k,rfl⟩:=Int.eq_ofNat_of_zero_le (show 0≤t by omega);by_cases hk:k<nT
  ·have g1:decide ((k:Int)≥(nT:Int))=false:=F_ (by omega);have hkI:(k:Int)<(nT:Int):=by omega
   obtain⟨bT,oT,q,rfl,hbT,hq,hcT⟩:=hr.rT.get hk;have hqr:=hG q (List.mem_of_getElem? hq);obtain⟨j,hj⟩:=Int.eq_ofNat_of_zero_le hqr.1;have hjn:j<nR:=by omega
   obtain⟨r,hrj⟩: ∃ r,M.routes[j]?=some r:=⟨_,List.getElem?_eq_getElem (by omega)⟩
   obtain⟨bR,oR,rfl,hbR,⟨s,n,c,hs0,hsr,_⟩,_⟩:=hr.rR.at_ j r hrj
   have hn:Hid (tripStops M (k:Int)=r.stops):=by
    show _=_;unfold tripStops;rw [if_neg (by omega),Int.toNat_natCast,hq];simp only [hj,Int.toNat_natCast,hrj]
   rw [hn.out];have hsrH:=H_ hsr;have z0:=hcT 0 _ rfl;rw [hj,Nat.add_zero] at z0;have hjI:(j:Int)<(nR:Int):=by omega
   have z0H:=H_ z0;have hs0H:=H_ hs0;clear hr hLT hLR hcT hqr hq hrj hsr hn;go_enter Tryz.func97,Tryz.ntmps97;go_wp2_with fail;go_upto_region 3 with fail;refine wb_ w2.heap.size ?_;intro C hC
   repeat(go_big_quiet_step (first
    |((intro _;with_reducible rfl))
    |(intro hc;have hcw:=b_ hup0 hc;have m0:=c_ hc l1 p9;have m1:=c_ hc l1 p10;have m2:=c_ hc l2 y0;have m3:=c_ hcw hbT z0H.out;have m4:=c_ hcw hbR hs0H.out;simp only [m0,m1,m2,m3,m4,Result.andThen];exact⟨trivial,rfl⟩)
   ))
   refine wpQuiet_nil ?_;intro w9 hb9;clear hC;have hb9H:=h_ hup hb9;clear hw1 hw2 hbE1 hbE2 hbF2 hb9;go_wp2_with fail;go_returns;exact⟨_,_,_,rfl,hsrH.out,hb9H.out⟩
  ·have g1:decide ((k:Int)≥(nT:Int))=true:=T_ (by omega)
   have hn:Hid (tripStops M (k:Int)=[]):=by
    show _=_;unfold tripStops;rw [if_neg (by omega),Int.toNat_natCast,List.getElem?_eq_none (by omega)]
   rw [hn.out];clear hr hLT hLR;go_enter Tryz.func97,Tryz.ntmps97;go_wp2_with fail;clear hw1 hw2 hbE1 hbE2 hbF2;go_returns;exact⟨_,_,_,rfl,⟨rfl,fun h=>absurd h (by omega)⟩,hup.out⟩
theorem cstops_any (M:WorldP) (V:WV) (we:World) (hr:RW we M V) (hG: ∀ q∈M.trips,0≤q.route∧q.route<(M.routes.length:Int)) (hf:Few M) (t no:Int) (x1 x2:Option Addr) (m1 m2 d1 d2:Nat):
 Calls Tryz.prog 97 #[wVal M V,.agg #[.int .i64 t,.int .i64 no,.slice x1 m1 d1,.slice x2 m2 d2]] we (RetSt (tripStops M t) we):=cstops_at M V we we (Below.refl _ _) hr hG hf t no x1 x2 m1 m2 d1 d2
def legB (hz:Int) (arr dep:List Int) (i:Nat):Bool:=match arr[i]?,dep[i]? with
 |some a,some d=>decide (W.chk a=0)&&(decide (d≤hz)&&(decide (a≤d)&&(decide (i=0)||match dep[i-1]? with
  |some p=>decide (p<a)
  |none=>true)))
 |_,_=>true
def fitsB (M:WorldP) (t:Int) (arr dep:List Int):Bool:=
 decide ((tripStops M t).length ≠0)&&(decide (arr.length=(tripStops M t).length)&&(decide (dep.length=(tripStops M t).length)&&(decide (arr[0]?=dep[0]?)&&(decide (arr[(tripStops M t).length -1]?=dep[(tripStops M t).length -1]?)&&(List.range (tripStops M t).length).all (legB M.hz arr dep)))))
theorem tripStops_le {M:WorldP} (hf:Few M) (t:Int):(tripStops M t).length ≤100000:=by
 unfold tripStops;split
 ·simp
 ·split
  ·simp
  ·split
   ·simp
   ·rename_i r h;exact(hf.sr r (List.mem_of_getElem? h)).1
theorem all_no {p:Nat→Bool} {n i:Nat} (hi:i<n) (h:p i=false):(List.range n).all p=false:=by
 rw [List.all_eq_false];exact⟨i,List.mem_range.2 hi,by rw [h];simp⟩
theorem all_yes {p:Nat→Bool} {n:Nat} (h: ∀ j,j<n→p j=true):(List.range n).all p=true:=List.all_eq_true.2 fun j hj=>h j (List.mem_range.1 hj)
theorem cfits_any (M:WorldP) (V:WV) (we:World) (hr:RW we M V) (hG: ∀ q∈M.trips,0≤q.route∧q.route<(M.routes.length:Int)) (hf:Few M) (t no:Int) (x1 x2:Option Addr) (m1 m2 d1 d2:Nat) (arr dep:List Int) (ha:Rd we 1 (numE .i64) x1 m1 arr) (hd:Rd we 1 (numE .i64) x2 m2 dep):
 Calls Tryz.prog 58 #[wVal M V,.agg #[.int .i64 t,.int .i64 no,.slice x1 m1 d1,.slice x2 m2 d2]] we fun e w'=>e= .returned (.bool (fitsB M t arr dep))∧Below we.heap.size we w':=by
 have hst:=H_ (fun w (h:RW w M V)=>cstops_any M V w h hG hf t no x1 x2 m1 m2 d1 d2);have hle:=H_ (tripStops_le hf t);obtain⟨a0,a1,a2,a3,a4,a5,aP,aD,aR,aT,aH,n0,n1,n2,n3,n4,n5,nP,nD,nR,nT,nH,c0,c1,c2,c3,c4,c5,cP,cD,cR,cT,cH⟩:=V;have hrH:=H_ hr;have haH:=H_ ha;have hdH:=H_ hd;simp only [wVal] at*;obtain⟨w1,w2,b1,b2,hw1,hw2,hbE1,hbE2,hbF2,hb1,hb2,hup,B1,B2,hge1,hge2⟩:=enter2 we 31 47 [.int .i64 M.hz,.slice a0 n0 c0,.slice a1 n1 c1,.slice a2 n2 c2,.slice a3 n3 c3,.slice a4 n4 c4,.slice a5 n5 c5,.slice aP nP cP,.slice aD nD cD,.slice aR nR cR,.slice aT nT cT,.slice aH nH cH] [.int .i64 t,.int .i64 no,.slice x1 m1 d1,.slice x2 m2 d2];obtain⟨p0,p1,p2,p3,p4,p5,p6,p7,p8,p9,p10,p11⟩:=c_12 B1;obtain⟨y0,y1,y2,y3⟩:=c_4 B2;have B1H:=H_ B1;have B2H:=H_ B2;clear B1 B2 hb1 hb2 hr hG hf ha hd;go_enter Tryz.func58,Tryz.ntmps58;go_wp2_with fail
 refine(hst.out w2 (hrH.out.below hup.out)).mono ?_;rintro e w3 ⟨A,n,c,rfl,hrs,hb3⟩;have hnl:Hid ((tripStops M t).length =n):=hrs.len;have h3:=h_ hup hb3;have b23:=H_ (B2H.out.below hb3);have b13:=H_ (B1H.out.below hb3);clear hw1 hw2 hbE1 hbE2 hbF2 hrs hb3 y0 y1 y2 y3 p0 p1 p2 p3 p4 p5 p6 p7 p8 p9 p10 p11;have y2:=b23.out.cell 2 rfl;have y3:=b23.out.cell 3 rfl;have l2:=b23.out.lt;by_cases hn0:n=0
 ·have e0:((n:Int)==0)=true:=by simp [hn0]
  have hno:Hid (fitsB M t arr dep=false):=by show _=_;unfold fitsB;rw [hnl.out,hn0];simp
  go_wp2_with fail;go_upto_region 2 with fail;refine wb_ w3.heap.size ?_;intro C hC
  repeat(go_big_quiet_step (first
   |((intro _;with_reducible rfl))
   |(intro hc;have hcw:=b_ h3 hc;have m0:=c_ hc l2 y2;have m1:=c_ hc l2 y3;simp only [m0,m1,Result.andThen];exact⟨trivial,rfl⟩)
  ))
  refine wpQuiet_nil ?_;intro w9 hb9;clear hC;have hbz:=h_ h3 hb9;clear hb9;go_wp2_with fail;go_returns;exact⟨by rw [hno.out];rfl,hbz.out⟩
 ·obtain⟨k,rfl⟩: ∃ k,n=k+1:=⟨n-1,by omega⟩
  have e0:((k:Int)+1==0)=false:=by simp;omega
  have hkI:(k:Int)<(k:Int)+1:=by omega
  have hkb:k+1≤100000:=by have:=hle.out;have:=hnl.out;omega
  by_cases hm1:m1=k+1
  ·subst hm1;have e1:((k:Int)+1 !=(k:Int)+1)=false:=by simp
   have la:decide (arr.length=k+1)=true:=T_ haH.out.len;by_cases hm2:m2=k+1
   ·subst hm2;have ld:decide (dep.length=k+1)=true:=T_ hdH.out.len;obtain⟨ba,oa,xa,rfl,hba,hxa,ga⟩:=haH.out.num (show 0<k+1 by omega);obtain⟨bd,od,xd,rfl,hbd,hxd,gd⟩:=hdH.out.num (show 0<k+1 by omega);obtain⟨_,_,ya,hqa,_,hya,ka⟩:=haH.out.num (show k<k+1 by omega);cases hqa;obtain⟨_,_,yd,hqd,_,hyd,kd⟩:=hdH.out.num (show k<k+1 by omega);cases hqd;rw [Nat.add_zero] at ga gd
    have hft:Hid (fitsB M t arr dep=(decide (xa=xd)&&(decide (ya=yd)&&(List.range (k+1)).all (legB M.hz arr dep)))):=by
     show _=_;unfold fitsB;rw [hnl.out,la,ld,hxa,hxd,Nat.add_sub_cancel,hya,hyd];simp
    have gaH:=H_ ga;have gdH:=H_ gd;have kaH:=H_ ka;have kdH:=H_ kd;clear ga gd ka kd la ld hxa hxd hya hyd;by_cases hw0:xa=xd
    ·have w0:(xa !=xd)=false:=by simp [hw0]
     replace hw0:=H_ hw0;by_cases hw1:ya=yd
     ·have w1:(ya !=yd)=false:=by simp [hw1]
      replace hw1:=H_ hw1;have hft2:Hid (fitsB M t arr dep=(List.range (k+1)).all (legB M.hz arr dep)):=by show _=_;rw [hft.out];simp [hw0.out,hw1.out]
      have x0:=b13.out.cell 0 rfl;have l1:=b13.out.lt;have y2H:=H_ y2;have y3H:=H_ y3;have x0H:=H_ x0;clear x0;go_wp2_with fail;go_upto_region 2 with fail;refine wb_ w3.heap.size ?_;intro C hC
      repeat(go_big_quiet_step (first
       |((intro _;with_reducible rfl))
       |(intro hc;have hcw:=b_ h3 hc;have m0:=c_ hc l2 y2;have m1:=c_ hc l2 y3;have m2:=c_ hcw hba gaH.out;have m3:=c_ hcw hbd gdH.out;have m4:=c_ hcw hba kaH.out;have m5:=c_ hcw hbd kdH.out;simp only [m0,m1,m2,m3,m4,m5,Result.andThen];exact⟨trivial,rfl⟩)
      ))
      refine wpQuiet_nil ?_;intro w9 hb9;clear hC;have hb:=H_ hb9;have y2:=c_ hb.out l2 y2H.out;have y3:=c_ hb.out l2 y3H.out;clear hb9;go_wp2_with fail;go_loopw [54] (fun iv wr=> ∃ i:Nat,i≤k+1∧iv= .int .i64 i∧Hid (∀ j,j<i→legB M.hz arr dep j=true)∧Hid (Below w3.heap.size w3 wr)) (fun iv _=>k+1-(intOf iv).toNat)
      case atStart=>exact⟨0,Nat.zero_le _,rfl,fun j hj=>absurd hj (by omega),hb⟩
      case round=>
       clear hb y2 y3;obtain⟨i,hi,rfl,hall,hb⟩:=hrel;have hbr:=h_ h3 hb.out;have y2:=c_ hb.out l2 y2H.out;have y3:=c_ hb.out l2 y3H.out;have x0:=c_ hb.out l1 x0H.out;have l1r:=Nat.lt_of_lt_of_le l1 hb.out.size;have l2r:=Nat.lt_of_lt_of_le l2 hb.out.size;by_cases hin:i<k+1
       ·have hinI:(i:Int)<(k:Int)+1:=by omega
        obtain⟨_,_,a,hqa,_,ha,fa⟩:=haH.out.num hin;cases hqa;obtain⟨_,_,d,hqd,_,hd,fd⟩:=hdH.out.num hin;cases hqd;have faH:=H_ fa;have fdH:=H_ fd;clear fa fd
        cases i with
        |zero=>
         have faH':=faH.out;have fdH':=fdH.out;clear faH fdH;rw [Nat.add_zero] at faH' fdH';have faH:=H_ faH';have fdH:=H_ fdH';clear faH' fdH';by_cases q0:W.chk a=0
         ·have q0b:(W.chk a !=0)=false:=by simp [q0]
          by_cases q1:d≤M.hz
          ·have q1b:decide (d>M.hz)=false:=F_ (by omega);by_cases q2:a≤d
           ·have q2b:decide (a>d)=false:=F_ (by omega)
            have hlg:Hid (∀ q,q<0+1→legB M.hz arr dep q=true):=by
             intro q hq;rcases Nat.lt_or_ge q 0 with h|h
             ·exact hall.out q h
             ·obtain rfl:q=0:=by omega
              unfold legB;rw [ha,hd];simp [q0,q1,q2]
            clear hall ha hd;go_wp2_with fail;go_upto_region 7 with fail;refine wb_ wr.heap.size ?_;intro C hC
            repeat(go_big_quiet_step (first
             |((intro _;with_reducible rfl))
             |(intro hc;have hcw:=b_ hbr hc;have m0:=c_ hc l2r y2;have m1:=c_ hc l2r y3;have m2:=c_ hc l1r x0;have m3:=c_ hcw hba faH.out;have m4:=c_ hcw hbd fdH.out;simp only [m0,m1,m2,m3,m4,Result.andThen];exact⟨trivial,rfl⟩)
             |(intro hc;have hcw:=b_ hbr hc;(with_reducible refine(tcheckW_any _ _).mono ?_);rintro e w'' ⟨rfl,rfl⟩;exact⟨rfl,hc⟩)))
            refine wpQuiet_nil ?_;intro w9 hb9;clear hC;have hbz:=h_ hb hb9;clear hb9 hb;go_wp2_with fail;go_roundw
            case rel=>exact⟨0+1,by omega,by go_num,hlg,hbz⟩
            case measure=>simp [intOf]
           ·have q2b:decide (a>d)=true:=T_ (by omega);have hlg:legB M.hz arr dep 0=false:=by unfold legB;rw [ha,hd];simp [q0,q1,q2]
            have hno:Hid (fitsB M t arr dep=false):=by show _=_;rw [hft2.out];exact all_no hin hlg
            clear hlg hall ha hd;go_wp2_with fail;go_upto_region 7 with fail;refine wb_ wr.heap.size ?_;intro C hC
            repeat(go_big_quiet_step (first
             |((intro _;with_reducible rfl))
             |(intro hc;have hcw:=b_ hbr hc;have m0:=c_ hc l2r y2;have m1:=c_ hc l2r y3;have m2:=c_ hc l1r x0;have m3:=c_ hcw hba faH.out;have m4:=c_ hcw hbd fdH.out;simp only [m0,m1,m2,m3,m4,Result.andThen];exact⟨trivial,rfl⟩)
             |(intro hc;have hcw:=b_ hbr hc;(with_reducible refine(tcheckW_any _ _).mono ?_);rintro e w'' ⟨rfl,rfl⟩;exact⟨rfl,hc⟩)))
            refine wpQuiet_nil ?_;intro w9 hb9;clear hC;have hbz:=h_ hbr hb9;clear hb9;go_wp2_with fail;go_returns;exact⟨by rw [hno.out];rfl,hbz.out⟩
          ·have q1b:decide (d>M.hz)=true:=T_ (by omega);have hlg:legB M.hz arr dep 0=false:=by unfold legB;rw [ha,hd];simp [q0,q1]
           have hno:Hid (fitsB M t arr dep=false):=by show _=_;rw [hft2.out];exact all_no hin hlg
           clear hlg hall ha hd;go_wp2_with fail;go_upto_region 7 with fail;refine wb_ wr.heap.size ?_;intro C hC
           repeat(go_big_quiet_step (first
            |((intro _;with_reducible rfl))
            |(intro hc;have hcw:=b_ hbr hc;have m0:=c_ hc l2r y2;have m1:=c_ hc l2r y3;have m2:=c_ hc l1r x0;have m3:=c_ hcw hba faH.out;have m4:=c_ hcw hbd fdH.out;simp only [m0,m1,m2,m3,m4,Result.andThen];exact⟨trivial,rfl⟩)
            |(intro hc;have hcw:=b_ hbr hc;(with_reducible refine(tcheckW_any _ _).mono ?_);rintro e w'' ⟨rfl,rfl⟩;exact⟨rfl,hc⟩)))
           refine wpQuiet_nil ?_;intro w9 hb9;clear hC;have hbz:=h_ hbr hb9;clear hb9;go_wp2_with fail;go_returns;exact⟨by rw [hno.out];rfl,hbz.out⟩
         ·have q0b:(W.chk a !=0)=true:=by simp [q0]
          have hlg:legB M.hz arr dep 0=false:=by unfold legB;rw [ha,hd];simp [q0]
          have hno:Hid (fitsB M t arr dep=false):=by show _=_;rw [hft2.out];exact all_no hin hlg
          clear hlg hall ha hd;go_wp2_with fail;go_upto_region 7 with fail;refine wb_ wr.heap.size ?_;intro C hC
          repeat(go_big_quiet_step (first
           |((intro _;with_reducible rfl))
           |(intro hc;have hcw:=b_ hbr hc;have m0:=c_ hc l2r y2;have m1:=c_ hc l2r y3;have m2:=c_ hc l1r x0;have m3:=c_ hcw hba faH.out;have m4:=c_ hcw hbd fdH.out;simp only [m0,m1,m2,m3,m4,Result.andThen];exact⟨trivial,rfl⟩)
           |(intro hc;have hcw:=b_ hbr hc;(with_reducible refine(tcheckW_any _ _).mono ?_);rintro e w'' ⟨rfl,rfl⟩;exact⟨rfl,hc⟩)))
          refine wpQuiet_nil ?_;intro w9 hb9;clear hC;have hbz:=h_ hbr hb9;clear hb9;go_wp2_with fail;go_returns;exact⟨by rw [hno.out];rfl,hbz.out⟩
        |succ j=>
         obtain⟨_,_,pv,hqp,_,hp,fp⟩:=hdH.out.num (show j<k+1 by omega);cases hqp;have fpH:=H_ fp;clear fp;have hjp:((j:Int)+1>0):=by omega
         by_cases q0:W.chk a=0
         ·have q0b:(W.chk a !=0)=false:=by simp [q0]
          by_cases q1:d≤M.hz
          ·have q1b:decide (d>M.hz)=false:=F_ (by omega);by_cases q2:a≤d
           ·have q2b:decide (a>d)=false:=F_ (by omega);by_cases q3:pv<a
            ·have q3b:decide (a≤pv)=false:=F_ (by omega)
             have hlg:Hid (∀ q,q<(j+1)+1→legB M.hz arr dep q=true):=by
              intro q hq;rcases Nat.lt_or_ge q (j+1) with h|h
              ·exact hall.out q h
              ·obtain rfl:q=(j+1):=by omega
               unfold legB;rw [ha,hd];simp [q0,q1,q2,q3,hp]
             clear hall ha hd;go_wp2_with fail;go_upto_region 7 with fail;refine wb_ wr.heap.size ?_;intro C hC
             repeat(go_big_quiet_step (first
              |((intro _;with_reducible rfl))
              |(intro hc;have hcw:=b_ hbr hc;have m0:=c_ hc l2r y2;have m1:=c_ hc l2r y3;have m2:=c_ hc l1r x0;have m3:=c_ hcw hba faH.out;have m4:=c_ hcw hbd fdH.out;have m5:=c_ hcw hbd fpH.out;simp only [m0,m1,m2,m3,m4,m5,Result.andThen];exact⟨trivial,rfl⟩)
              |(intro hc;have hcw:=b_ hbr hc;(with_reducible refine(tcheckW_any _ _).mono ?_);rintro e w'' ⟨rfl,rfl⟩;exact⟨rfl,hc⟩)))
             refine wpQuiet_nil ?_;intro w9 hb9;clear hC;have hbz:=h_ hb hb9;clear hb9 hb;go_wp2_with fail;go_roundw
             case rel=>exact⟨(j+1)+1,by omega,by go_num,hlg,hbz⟩
             case measure=>simp [intOf];omega
            ·have q3b:decide (a≤pv)=true:=T_ (by omega);have hlg:legB M.hz arr dep (j+1)=false:=by unfold legB;rw [ha,hd];simp [q0,q1,q2,q3,hp]
             have hno:Hid (fitsB M t arr dep=false):=by show _=_;rw [hft2.out];exact all_no hin hlg
             clear hlg hall ha hd;go_wp2_with fail;go_upto_region 7 with fail;refine wb_ wr.heap.size ?_;intro C hC
             repeat(go_big_quiet_step (first
              |((intro _;with_reducible rfl))
              |(intro hc;have hcw:=b_ hbr hc;have m0:=c_ hc l2r y2;have m1:=c_ hc l2r y3;have m2:=c_ hc l1r x0;have m3:=c_ hcw hba faH.out;have m4:=c_ hcw hbd fdH.out;have m5:=c_ hcw hbd fpH.out;simp only [m0,m1,m2,m3,m4,m5,Result.andThen];exact⟨trivial,rfl⟩)
              |(intro hc;have hcw:=b_ hbr hc;(with_reducible refine(tcheckW_any _ _).mono ?_);rintro e w'' ⟨rfl,rfl⟩;exact⟨rfl,hc⟩)))
             refine wpQuiet_nil ?_;intro w9 hb9;clear hC;have hbz:=h_ hbr hb9;clear hb9;go_wp2_with fail;go_returns;exact⟨by rw [hno.out];rfl,hbz.out⟩
           ·have q2b:decide (a>d)=true:=T_ (by omega);have hlg:legB M.hz arr dep (j+1)=false:=by unfold legB;rw [ha,hd];simp [q0,q1,q2]
            have hno:Hid (fitsB M t arr dep=false):=by show _=_;rw [hft2.out];exact all_no hin hlg
            clear hlg hall ha hd;go_wp2_with fail;go_upto_region 7 with fail;refine wb_ wr.heap.size ?_;intro C hC
            repeat(go_big_quiet_step (first
             |((intro _;with_reducible rfl))
             |(intro hc;have hcw:=b_ hbr hc;have m0:=c_ hc l2r y2;have m1:=c_ hc l2r y3;have m2:=c_ hc l1r x0;have m3:=c_ hcw hba faH.out;have m4:=c_ hcw hbd fdH.out;have m5:=c_ hcw hbd fpH.out;simp only [m0,m1,m2,m3,m4,m5,Result.andThen];exact⟨trivial,rfl⟩)
             |(intro hc;have hcw:=b_ hbr hc;(with_reducible refine(tcheckW_any _ _).mono ?_);rintro e w'' ⟨rfl,rfl⟩;exact⟨rfl,hc⟩)))
            refine wpQuiet_nil ?_;intro w9 hb9;clear hC;have hbz:=h_ hbr hb9;clear hb9;go_wp2_with fail;go_returns;exact⟨by rw [hno.out];rfl,hbz.out⟩
          ·have q1b:decide (d>M.hz)=true:=T_ (by omega);have hlg:legB M.hz arr dep (j+1)=false:=by unfold legB;rw [ha,hd];simp [q0,q1]
           have hno:Hid (fitsB M t arr dep=false):=by show _=_;rw [hft2.out];exact all_no hin hlg
           clear hlg hall ha hd;go_wp2_with fail;go_upto_region 7 with fail;refine wb_ wr.heap.size ?_;intro C hC
           repeat(go_big_quiet_step (first
            |((intro _;with_reducible rfl))
            |(intro hc;have hcw:=b_ hbr hc;have m0:=c_ hc l2r y2;have m1:=c_ hc l2r y3;have m2:=c_ hc l1r x0;have m3:=c_ hcw hba faH.out;have m4:=c_ hcw hbd fdH.out;have m5:=c_ hcw hbd fpH.out;simp only [m0,m1,m2,m3,m4,m5,Result.andThen];exact⟨trivial,rfl⟩)
            |(intro hc;have hcw:=b_ hbr hc;(with_reducible refine(tcheckW_any _ _).mono ?_);rintro e w'' ⟨rfl,rfl⟩;exact⟨rfl,hc⟩)))
           refine wpQuiet_nil ?_;intro w9 hb9;clear hC;have hbz:=h_ hbr hb9;clear hb9;go_wp2_with fail;go_returns;exact⟨by rw [hno.out];rfl,hbz.out⟩
         ·have q0b:(W.chk a !=0)=true:=by simp [q0]
          have hlg:legB M.hz arr dep (j+1)=false:=by unfold legB;rw [ha,hd];simp [q0]
          have hno:Hid (fitsB M t arr dep=false):=by show _=_;rw [hft2.out];exact all_no hin hlg
          clear hlg hall ha hd;go_wp2_with fail;go_upto_region 7 with fail;refine wb_ wr.heap.size ?_;intro C hC
          repeat(go_big_quiet_step (first
           |((intro _;with_reducible rfl))
           |(intro hc;have hcw:=b_ hbr hc;have m0:=c_ hc l2r y2;have m1:=c_ hc l2r y3;have m2:=c_ hc l1r x0;have m3:=c_ hcw hba faH.out;have m4:=c_ hcw hbd fdH.out;have m5:=c_ hcw hbd fpH.out;simp only [m0,m1,m2,m3,m4,m5,Result.andThen];exact⟨trivial,rfl⟩)
           |(intro hc;have hcw:=b_ hbr hc;(with_reducible refine(tcheckW_any _ _).mono ?_);rintro e w'' ⟨rfl,rfl⟩;exact⟨rfl,hc⟩)))
          refine wpQuiet_nil ?_;intro w9 hb9;clear hC;have hbz:=h_ hbr hb9;clear hb9;go_wp2_with fail;go_returns;exact⟨by rw [hno.out];rfl,hbz.out⟩
       ·have hfin:Hid (fitsB M t arr dep=true):=by show _=_;rw [hft2.out];exact all_yes fun j hj=>hall.out j (by omega)
        clear hall;go_wp2_with fail;go_returns;exact⟨by rw [hfin.out];rfl,hbr.out⟩
     ·have w1:(ya !=yd)=true:=by simp [hw1]
      have hno:Hid (fitsB M t arr dep=false):=by show _=_;rw [hft.out];simp [hw1]
      replace hw1:=H_ hw1;go_wp2_with fail;go_upto_region 2 with fail;refine wb_ w3.heap.size ?_;intro C hC
      repeat(go_big_quiet_step (first
       |((intro _;with_reducible rfl))
       |(intro hc;have hcw:=b_ h3 hc;have m0:=c_ hc l2 y2;have m1:=c_ hc l2 y3;have m2:=c_ hcw hba gaH.out;have m3:=c_ hcw hbd gdH.out;have m4:=c_ hcw hba kaH.out;have m5:=c_ hcw hbd kdH.out;simp only [m0,m1,m2,m3,m4,m5,Result.andThen];exact⟨trivial,rfl⟩)
      ))
      refine wpQuiet_nil ?_;intro w9 hb9;clear hC;have hbz:=h_ h3 hb9;clear hb9;go_wp2_with fail;go_returns;exact⟨by rw [hno.out];rfl,hbz.out⟩
    ·have w0:(xa !=xd)=true:=by simp [hw0]
     have hno:Hid (fitsB M t arr dep=false):=by show _=_;rw [hft.out];simp [hw0]
     replace hw0:=H_ hw0;go_wp2_with fail;go_upto_region 2 with fail;refine wb_ w3.heap.size ?_;intro C hC
     repeat(go_big_quiet_step (first
      |((intro _;with_reducible rfl))
      |(intro hc;have hcw:=b_ h3 hc;have m0:=c_ hc l2 y2;have m1:=c_ hc l2 y3;have m2:=c_ hcw hba gaH.out;have m3:=c_ hcw hbd gdH.out;simp only [m0,m1,m2,m3,Result.andThen];exact⟨trivial,rfl⟩)
     ))
     refine wpQuiet_nil ?_;intro w9 hb9;clear hC;have hbz:=h_ h3 hb9;clear hb9;go_wp2_with fail;go_returns;exact⟨by rw [hno.out];rfl,hbz.out⟩
   ·have e2:((m2:Int) !=(k:Int)+1)=true:=by simp;omega
    have hno:Hid (fitsB M t arr dep=false):=by
     show _=_;unfold fitsB;rw [hnl.out,show decide (dep.length=k+1)=false from F_ (by rw [hdH.out.len];exact hm2)];simp
    clear hm2;go_wp2_with fail;go_upto_region 2 with fail;refine wb_ w3.heap.size ?_;intro C hC
    repeat(go_big_quiet_step (first
     |((intro _;with_reducible rfl))
     |(intro hc;have hcw:=b_ h3 hc;have m0:=c_ hc l2 y2;have m1:=c_ hc l2 y3;simp only [m0,m1,Result.andThen];exact⟨trivial,rfl⟩)
    ))
    refine wpQuiet_nil ?_;intro w9 hb9;clear hC;have hbz:=h_ h3 hb9;clear hb9;go_wp2_with fail;go_returns;exact⟨by rw [hno.out];rfl,hbz.out⟩
  ·have e2:((m1:Int) !=(k:Int)+1)=true:=by simp;omega
   have hno:Hid (fitsB M t arr dep=false):=by
    show _=_;unfold fitsB;rw [hnl.out,show decide (arr.length=k+1)=false from F_ (by rw [haH.out.len];exact hm1)];simp
   clear hm1;go_wp2_with fail;go_upto_region 2 with fail;refine wb_ w3.heap.size ?_;intro C hC
   repeat(go_big_quiet_step (first
    |((intro _;with_reducible rfl))
    |(intro hc;have hcw:=b_ h3 hc;have m0:=c_ hc l2 y2;have m1:=c_ hc l2 y3;simp only [m0,m1,Result.andThen];exact⟨trivial,rfl⟩)
   ))
   refine wpQuiet_nil ?_;intro w9 hb9;clear hC;have hbz:=h_ h3 hb9;clear hb9;go_wp2_with fail;go_returns;exact⟨by rw [hno.out];rfl,hbz.out⟩
