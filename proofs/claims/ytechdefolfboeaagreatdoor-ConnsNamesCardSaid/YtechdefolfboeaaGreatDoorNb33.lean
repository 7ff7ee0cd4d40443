/- Texts of one chain, merged. -/
import Derived.Test.YtechdefolfboeaaGreatDoorNb32
namespace Go.Proofs.YtechdefolfboeaaGreatDoor
open Go.RowKit B K
set_option linter.unusedVariables false
set_option linter.unusedSimpArgs false
set_option maxRecDepth 100000
set_option maxHeartbeats 2000000
def tripStops (M:WorldP) (t:Int):List Int:=if t<0 then [] else match M.trips[t.toNat]? with
 |none=>[]
 |some q=>match M.routes[q.route.toNat]? with
  |none=>[]
  |some r=>r.stops
def RetSt (l:List Int) (we:World) (e:Ending) (w':World):Prop:= ∃ A n c,e= .returned (.slice A n c)∧Rd we 1 (numE .i64) A n l∧Below we.heap.size we w'
def RetSt0 (l:List Int) (w0 we:World) (e:Ending) (w':World):Prop:= ∃ A n c,e= .returned (.slice A n c)∧Rd w0 1 (numE .i64) A n l∧Below we.heap.size we w'
theorem cstops_at (M:WorldP) (V:WV) (w0 we:World) (hbe:Below w0.heap.size w0 we) (hr:RW w0 M V) (hG: ∀ q∈M.trips,0≤q.route∧q.route<(M.routes.length:Int)) (hf:Few M) (t no:Int) (x1 x2:Option Addr) (m1 m2 d1 d2:Nat):
 Calls Tryz.prog 97 #[wVal M V,.agg #[.int .i64 t,.int .i64 no,.slice x1 m1 d1,.slice x2 m2 d2]] we (RetSt0 (tripStops M t) w0 we):=by
 obtain⟨a0,a1,a2,a3,a4,a5,aP,aD,aR,aT,aH,n0,n1,n2,n3,n4,n5,nP,nD,nR,nT,nH,c0,c1,c2,c3,c4,c5,cP,cD,cR,cT,cH⟩:=V
 have hrH:=Lib.hid hr
 have hLT:M.trips.length=nT:=hr.rT.len
 have hLR:M.routes.length=nR:=hr.rR.len
 have mT:nT≤100000:=by rw [←hLT];exact hf.sT
 have mR:nR≤100000:=by rw [←hLR];exact hf.sR
 simp only [wVal]
 obtain⟨w1,w2,b1,b2,hw1,hw2,hbE1,hbE2,hbF2,hb1,hb2,hup,B1,B2,hge1,hge2⟩:=enter2 we 31 47 [.int .i64 M.hz,.slice a0 n0 c0,.slice a1 n1 c1,.slice a2 n2 c2,.slice a3 n3 c3,.slice a4 n4 c4,.slice a5 n5 c5,.slice aP nP cP,.slice aD nD cD,.slice aR nR cR,.slice aT nT cT,.slice aH nH cH] [.int .i64 t,.int .i64 no,.slice x1 m1 d1,.slice x2 m2 d2]
 have hup0:Hid (Below w0.heap.size w0 w2):=hbe.trans (hup.out.mono hbe.size)
 have p0:=B1.cell 0 rfl
 have p1:=B1.cell 1 rfl
 have p2:=B1.cell 2 rfl
 have p3:=B1.cell 3 rfl
 have p4:=B1.cell 4 rfl
 have p5:=B1.cell 5 rfl
 have p6:=B1.cell 6 rfl
 have p7:=B1.cell 7 rfl
 have p8:=B1.cell 8 rfl
 have p9:=B1.cell 9 rfl
 have p10:=B1.cell 10 rfl
 have p11:=B1.cell 11 rfl
 have y0:=B2.cell 0 rfl
 have l1:=B1.lt
 have l2:=B2.lt
 have B1H:=Lib.hid B1
 have B2H:=Lib.hid B2
 clear B1 B2 hb1 hb2
 by_cases h0:t<0
 ·have g0:decide (t<0)=true:=decide_eq_true h0
  have hn:Hid (tripStops M t=[]):=by show _=_;unfold tripStops;rw [if_pos h0]
  rw [hn.out]
  clear hr hLT hLR
  go_enter Tryz.func97,Tryz.ntmps97
  go_wp2_with fail
  clear hw1 hw2 hbE1 hbE2 hbF2
  go_returns
  exact⟨_,_,_,rfl,⟨rfl,fun h=>absurd h (by omega)⟩,hup.out⟩
 ·have g0:decide (t<0)=false:=decide_eq_false h0
  obtain⟨k,rfl⟩:=Int.eq_ofNat_of_zero_le (show 0≤t by omega)
  by_cases hk:k<nT
  ·have g1:decide ((k:Int)≥(nT:Int))=false:=decide_eq_false (by omega)
   have hkI:(k:Int)<(nT:Int):=by omega
   obtain⟨bT,oT,q,rfl,hbT,hq,hcT⟩:=hr.rT.get hk
   have hqr:=hG q (List.mem_of_getElem? hq)
   obtain⟨j,hj⟩:=Int.eq_ofNat_of_zero_le hqr.1
   have hjn:j<nR:=by omega
   obtain⟨r,hrj⟩: ∃ r,M.routes[j]?=some r:=⟨_,List.getElem?_eq_getElem (by omega)⟩
   obtain⟨bR,oR,rfl,hbR,⟨s,n,c,hs0,hsr,_⟩,_⟩:=hr.rR.at_ j r hrj
   have hn:Hid (tripStops M (k:Int)=r.stops):=by
    show _=_
    unfold tripStops
    rw [if_neg (by omega),Int.toNat_natCast,hq]
    simp only [hj,Int.toNat_natCast,hrj]
   rw [hn.out]
   have hsrH:=Lib.hid hsr
   have z0:=hcT 0 _ rfl
   rw [hj,Nat.add_zero] at z0
   have hjI:(j:Int)<(nR:Int):=by omega
   have z0H:=Lib.hid z0
   have hs0H:=Lib.hid hs0
   clear hr hLT hLR hcT hqr hq hrj hsr hn
   go_enter Tryz.func97,Tryz.ntmps97
   go_wp2_with fail
   go_upto_region 3 with fail
   refine wp_region_below w2.heap.size (by kernel_rfl) (by kernel_rfl) ?_
   intro C hC
   repeat(go_big_quiet_step (first
    |((intro _;with_reducible rfl))
    |(intro hc;have hcw:=hup0.out.trans (hc.mono hup0.out.size);have m0:=(hc.cell (p:=⟨b1,_,none⟩) l1).trans p9;have m1:=(hc.cell (p:=⟨b1,_,none⟩) l1).trans p10;have m2:=(hc.cell (p:=⟨b2,_,none⟩) l2).trans y0;have m3:=(hcw.cell (p:=⟨bT,_,none⟩) hbT).trans z0H.out;have m4:=(hcw.cell (p:=⟨bR,_,none⟩) hbR).trans hs0H.out;simp only [m0,m1,m2,m3,m4,Result.andThen];exact⟨trivial,rfl⟩)
   ))
   refine wpQuiet_nil ?_
   intro w9 hb9
   clear hC
   have hb9H:=Lib.hid (hup.out.trans (hb9.mono hup.out.size))
   clear hw1 hw2 hbE1 hbE2 hbF2 hb9
   go_wp2_with fail
   go_returns
   exact⟨_,_,_,rfl,hsrH.out,hb9H.out⟩
  ·have g1:decide ((k:Int)≥(nT:Int))=true:=decide_eq_true (by omega)
   have hn:Hid (tripStops M (k:Int)=[]):=by
    show _=_
    unfold tripStops
    rw [if_neg (by omega),Int.toNat_natCast,List.getElem?_eq_none (by omega)]
   rw [hn.out]
   clear hr hLT hLR
   go_enter Tryz.func97,Tryz.ntmps97
   go_wp2_with fail
   clear hw1 hw2 hbE1 hbE2 hbF2
   go_returns
   exact⟨_,_,_,rfl,⟨rfl,fun h=>absurd h (by omega)⟩,hup.out⟩
theorem cstops_any (M:WorldP) (V:WV) (we:World) (hr:RW we M V) (hG: ∀ q∈M.trips,0≤q.route∧q.route<(M.routes.length:Int)) (hf:Few M) (t no:Int) (x1 x2:Option Addr) (m1 m2 d1 d2:Nat):
 Calls Tryz.prog 97 #[wVal M V,.agg #[.int .i64 t,.int .i64 no,.slice x1 m1 d1,.slice x2 m2 d2]] we (RetSt (tripStops M t) we):=cstops_at M V we we (Below.refl _ _) hr hG hf t no x1 x2 m1 m2 d1 d2
end Go.Proofs.YtechdefolfboeaaGreatDoor
