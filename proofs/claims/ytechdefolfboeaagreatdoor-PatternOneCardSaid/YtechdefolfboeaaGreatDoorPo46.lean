/- Merged. -/
import Derived.Test.YtechdefolfboeaaGreatDoorPo3
import Derived.Test.YtechdefolfboeaaGreatDoorPo9
import Derived.Test.YtechdefolfboeaaGreatDoorPo44
import Derived.Test.YtechdefolfboeaaGreatDoorPo45
set_option linter.unusedVariables false
set_option linter.unusedSimpArgs false
set_option maxHeartbeats 2000000
namespace Go.Proofs.YtechdefolfboeaaGreatDoor
open Go.RowKit B
theorem place_any (A:Option Addr) (n c:Nat) (l:List Str) (s:Str) (w:World) (hr:Rd w 1 strE A n l) (hn:n≤1099511627776):
 Calls Tryz.prog 217 #[.slice A n c,.string s] w fun e w'=>e= .returned (.int .i64 (placeI l s))∧w=w':=by
 have hlen:=hr.len;have hrH:=H_ hr;have hl:=H_ hlen;clear hlen hr;go_enter Tryz.func217,Tryz.ntmps217;go_wp2_with fail;go_loopw [5] (fun iv wr=> ∃ i:Nat,i≤n∧iv= .int .i64 i∧Hid (i≤placeN s l)∧w=wr) (fun iv _=>n-(intOf iv).toNat)
 case atStart=>exact⟨0,Nat.zero_le _,rfl,Nat.zero_le _,rfl⟩
 case round=>
  obtain⟨i,hi,rfl,hp,rfl⟩:=hrel;by_cases hin:i<n
  ·have hinI:(i:Int)<(n:Int):=by omega
   obtain⟨b,o,x,rfl,hb0,hx,g0⟩:=hrH.out.str hin
   cases hq:sq x s with
   |true=>
    have he:=placeN_stop s l i x hx hp.out hq;have hres:Hid (placeI l s=(i:Int)):=by show _=_;unfold placeI;rw [he,if_pos (by rw [hl.out];exact hin)]
    unfold sq at hq;clear he hx hp;go_wp2_with fail;go_returns;exact⟨by rw [hres.out];rfl,rfl⟩
   |false=>
    have hnx:Hid (i+1≤placeN s l):=placeN_go s l i x hx hp.out hq;unfold sq at hq;clear hx hp;go_wp2_with fail;go_roundw
    case rel=>exact⟨i+1,by omega,by go_num,hnx,trivial⟩
    case measure=>simp [intOf];omega
  ·obtain rfl:i=n:=by omega
   have hres:Hid (placeI l s= -1):=by show _=_;unfold placeI;rw [if_neg (by have:=hp.out;have:=placeN_le s l;rw [hl.out] at*;omega)]
   clear hp;go_wp2_with fail;go_returns;exact⟨by rw [hres.out];rfl,rfl⟩
theorem way_any (a b n:Int) (w:World):Calls Tryz.prog 219 #[.int .i64 a,.int .i64 b,.int .i64 n] w fun e w'=>e= .returned (.int .i64 (wayE a b n))∧w=w':=by
 unfold wayE;by_cases h1:a<0
 ·rw [if_pos (.inl h1)];go_enter Tryz.func219,Tryz.ntmps219;go_wp2_with fail;go_returns;exact⟨rfl,rfl⟩
 ·by_cases h2:b<0
  ·rw [if_pos (.inr h2)];go_enter Tryz.func219,Tryz.ntmps219;go_wp2_with fail;go_returns;exact⟨rfl,rfl⟩
  ·rw [if_neg (by omega)];by_cases h3:a=b
   ·rw [if_pos (.inl h3)];subst h3;go_enter Tryz.func219,Tryz.ntmps219;go_wp2_with fail;go_returns;exact⟨rfl,rfl⟩
   ·have h3':(a==b)=false:=by simp [h3]
    by_cases h4:n<1
    ·rw [if_pos (.inr h4)];go_enter Tryz.func219,Tryz.ntmps219;go_wp2_with fail;go_returns;exact⟨rfl,rfl⟩
    ·rw [if_neg (by omega)];go_enter Tryz.func219,Tryz.ntmps219;go_wp2_with fail;go_returns;exact⟨rfl,rfl⟩
theorem times_any (f v n h:Int) (w:World):Calls Tryz.prog 220 #[.agg #[.int .i64 f,.int .i64 v,.int .i64 n],.int .i64 h] w fun e w'=>e= .returned (.int .i64 (timesE f v n h))∧Below w.heap.size w w':=by
 unfold timesE;obtain⟨r,hr⟩: ∃ r,winsM f v n h=r:=⟨_,rfl⟩
 have hw:=H_ (rwins_any f v n h);rw [hr] at hw ⊢;clear hr;go_enter Tryz.func220,Tryz.ntmps220;go_wp2_with fail;refine(hw.out _).mono ?_;rintro e w1 ⟨A,c,rfl,_,_,_,hb⟩;have hbw:Hid (Below w.heap.size w w1):=((Below.refl _ w).alloc (Nat.le_refl _) _).trans (hb.mono (by simp));clear hb;go_wp2_with fail;go_returns;exact⟨rfl,hbw.out⟩
theorem wrong_any (e k a:Int) (w:World):Calls Tryz.prog 110 #[.int .i64 e,.int .i64 k,.int .i64 a] w fun r w'=>r= .returned (.agg #[.int .i64 e,.int .i64 k,.int .i64 a])∧Below w.heap.size w w':=by
 go_enter Tryz.func110,Tryz.ntmps110;go_wp2_with fail;go_returns;exact⟨rfl,below_alloc _ _ _⟩
theorem lists_any (a0 a1 a2 a3 a4 a5:Option Addr) (n0 n1 n2 n3 n4 n5 c0 c1 c2 c3 c4 c5:Nat) (w:World):
 Calls Tryz.prog 218 #[.agg #[.slice a0 n0 c0,.slice a1 n1 c1,.slice a2 n2 c2,.slice a3 n3 c3,.slice a4 n4 c4,.slice a5 n5 c5]] w fun e w'=> ∃ g,e= .returned (.slice (some ⟨g,0,none⟩) 6 6)∧Bx w' g 22 [.slice a0 n0 c0,.slice a1 n1 c1,.slice a2 n2 c2,.slice a3 n3 c3,.slice a4 n4 c4,.slice a5 n5 c5]∧Below w.heap.size w w':=by
 go_enter Tryz.func218,Tryz.ntmps218;go_wp2_with fail;go_returns;have hB:=Bx.new (w.alloc (.cells #[.slice a0 n0 c0,.slice a1 n1 c1,.slice a2 n2 c2,.slice a3 n3 c3,.slice a4 n4 c4,.slice a5 n5 c5] 24)) 22 [.slice a0 n0 c0,.slice a1 n1 c1,.slice a2 n2 c2,.slice a3 n3 c3,.slice a4 n4 c4,.slice a5 n5 c5];rw [show(w.alloc (.cells #[.slice a0 n0 c0,.slice a1 n1 c1,.slice a2 n2 c2,.slice a3 n3 c3,.slice a4 n4 c4,.slice a5 n5 c5] 24)).heap.size =w.heap.size+1 by simp] at hB;refine⟨_,rfl,hB,(below_alloc w _ _).trans ((below_alloc _ _ _).mono (by simp))⟩
theorem route_any (r:RouteP) (A1 A2 A3:Option Addr) (n1 n2 n3 c1 c2 c3:Nat) (w:World) (h1:Rd w 1 (numE .i64) A1 n1 r.stops) (h2:Rd w 1 (numE .i64) A2 n2 r.rides) (hn:n1≤1099511627776) (hl:n2+1=n1):
 Calls Tryz.prog 221 #[.agg #[.slice A1 n1 c1,.slice A2 n2 c2,.slice A3 n3 c3]] w (RetE w (routeB r)):=by
 have hb1:=below_alloc w #[.slice A1 n1 c1,.slice A2 n2 c2,.slice A3 n3 c3] 51;have B1:=Bx.new w 51 [.slice A1 n1 c1,.slice A2 n2 c2,.slice A3 n3 c3];obtain⟨w1,hw1⟩: ∃ q,w.alloc (.cells #[.slice A1 n1 c1,.slice A2 n2 c2,.slice A3 n3 c3] 51)=q:=⟨_,rfl⟩
 rw [hw1] at hb1;change Bx (w.alloc (.cells #[.slice A1 n1 c1,.slice A2 n2 c2,.slice A3 n3 c3] 51)) _ _ _ at B1;rw [hw1] at B1;obtain⟨bn,hbn⟩: ∃ q,w.heap.size=q:=⟨_,rfl⟩
 rw [hbn] at B1;have l1:=H_ h1.len;have l2:=H_ h2.len;have R1:=H_ (h1.below hb1);have R2:=H_ (h2.below hb1);have hb1H:=H_ hb1;have p0:=B1.cell 0 rfl;have p1:=B1.cell 1 rfl;have hlt:=B1.lt;clear h1 h2 hb1 B1;go_enter Tryz.func221,Tryz.ntmps221;go_wp2_with fail;go_loopw [3] (fun iv wr=> ∃ i:Nat,i≤n1∧iv= .int .i64 i∧Hid ((r.stops.take i).all (fun s=>decide (0≤s))=true)∧w1=wr) (fun iv _=>n1-(intOf iv).toNat)
 case atStart=>exact⟨0,Nat.zero_le _,rfl,rfl,rfl⟩
 case round=>
  obtain⟨i,hi,rfl,hall,rfl⟩:=hrel;by_cases hin:i<n1
  ·have hinI:(i:Int)<(n1:Int):=by omega
   obtain⟨b,o,x,rfl,hb0,hx,g0⟩:=R1.out.num hin;by_cases hx0:0≤x
   ·have hnx:=H_ (all_snoc (f:=fun s=>decide (0≤s)) hall.out hx (T_ hx0));clear hx hall;go_wp2_with fail;go_roundw
    case rel=>exact⟨i+1,by omega,by go_num,hnx,trivial⟩
    case measure=>simp [intOf];omega
   ·have hno:=H_ (all_not (f:=fun s=>decide (0≤s)) hx (F_ hx0));clear hx hall;go_wp2_with fail;go_returns;exact RetE.no (by decide) (by unfold routeB;rw [hno.out];rfl) hb1H.out
  ·obtain rfl:i=n1:=by omega
   have hA:=H_ (all_done hall.out l1.out);clear hall hi hin;go_wp2_with fail;go_loopw [4] (fun iv wr=> ∃ j:Nat,j≤n2∧iv= .int .i64 ((j:Int)+1)∧Hid (∀ (k:Nat) a b q,k<j→r.stops[k]?=some a→r.stops[k+1]?=some b→r.rides[k]?=some q→a≠b∧1≤q)∧Hid (Below w1.heap.size w1 wr)) (fun iv _=>n2+1-(intOf iv).toNat)
   case atStart=>exact⟨0,Nat.zero_le _,rfl,fun k a b q hk=>(by omega),Below.refl _ _⟩
   case round=>
    obtain⟨j,hj,rfl,hall,hbr⟩:=hrel;have p0r:=c_ hbr.out hlt p0;by_cases hin:j<n2
    ·have hinI:(j:Int)+1<(i:Int):=by omega
     have hin2:(j:Int)<(n2:Int):=by omega
     obtain⟨b,o,x,rfl,hb0,hx,g0⟩:=R1.out.num (k:=j) (by omega);obtain⟨b',o',y,hbe,_,hy,g1⟩:=R1.out.num (k:=j+1) (by omega);cases hbe;obtain⟨b2,o2,q,rfl,hb2,hq,g2⟩:=R2.out.num hin;have hfn:Hid (∀ W,Below w1.heap.size w1 W→Below w.heap.size w W):=fun W hW=>b_ hb1H hW;by_cases hxy:x=y
     ·have hno:Hid (legsB r.stops r.rides=false):=by
       show _=_;rw [Bool.eq_false_iff];intro h;exact((legsB_iff _ _ (by rw [l1.out,l2.out];omega)).1 h j x y q hx hy hq).1 hxy
      subst hxy;clear hx hy hq hall;go_wp2_with fail;go_upto_region 9 with fail;refine wb_ wr.heap.size ?_;intro C hC
      repeat(go_big_quiet_step (first
       |((intro _;with_reducible rfl))
       |(intro hc0;have hc:=b_ hbr hc0;have m0:=c_ hc hlt p0;have m1:=c_ hc hlt p1;have m2:=c_ hc hb0 g0;have m3:=c_ hc hb0 g1;have m4:=c_ hc hb2 g2;simp only [m0,m1,m2,m3,m4,Result.andThen];exact⟨trivial,rfl⟩)))
      refine wpQuiet_nil ?_;intro w9 hb9;clear hC;go_wp2_with fail;go_returns;exact RetE.no (by decide) (by unfold routeB;rw [hno.out,Bool.and_false]) (hfn.out _ (b_ hbr hb9))
     ·have hxy':(y==x)=false:=by simp;exact fun h=>hxy h.symm
      by_cases hq1:1≤q
      ·have hnx:Hid (∀ (k:Nat) a b q,k<j+1→r.stops[k]?=some a→r.stops[k+1]?=some b→r.rides[k]?=some q→a≠b∧1≤q):=fun k a b' q' hk ha hb hq'=>by
        rcases Nat.lt_or_ge k j with h|h
        ·exact hall.out k a b' q' h ha hb hq'
        ·obtain rfl:k=j:=by omega
         rw [hx] at ha;rw [hy] at hb;rw [hq] at hq';cases ha;cases hb;cases hq';exact⟨hxy,hq1⟩
       clear hx hy hq hall;go_wp2_with fail;go_upto_region 9 with fail;refine wb_ wr.heap.size ?_;intro C hC
       repeat(go_big_quiet_step (first
        |((intro _;with_reducible rfl))
        |(intro hc0;have hc:=b_ hbr hc0;have m0:=c_ hc hlt p0;have m1:=c_ hc hlt p1;have m2:=c_ hc hb0 g0;have m3:=c_ hc hb0 g1;have m4:=c_ hc hb2 g2;simp only [m0,m1,m2,m3,m4,Result.andThen];exact⟨trivial,rfl⟩)))
       refine wpQuiet_nil ?_;intro w9 hb9;clear hC;go_wp2_with fail;have hb2:=h_ hbr hb9;go_roundw
       case rel=>exact⟨j+1,by omega,by go_num,hnx,hb2⟩
       case measure=>simp [intOf];omega
      ·have hno:Hid (legsB r.stops r.rides=false):=by
        show _=_;rw [Bool.eq_false_iff];intro h;exact hq1 ((legsB_iff _ _ (by rw [l1.out,l2.out];omega)).1 h j x y q hx hy hq).2
       clear hx hy hq hall;go_wp2_with fail;go_upto_region 9 with fail;refine wb_ wr.heap.size ?_;intro C hC
       repeat(go_big_quiet_step (first
        |((intro _;with_reducible rfl))
        |(intro hc0;have hc:=b_ hbr hc0;have m0:=c_ hc hlt p0;have m1:=c_ hc hlt p1;have m2:=c_ hc hb0 g0;have m3:=c_ hc hb0 g1;have m4:=c_ hc hb2 g2;simp only [m0,m1,m2,m3,m4,Result.andThen];exact⟨trivial,rfl⟩)))
       refine wpQuiet_nil ?_;intro w9 hb9;clear hC;go_wp2_with fail;go_returns;exact RetE.no (by decide) (by unfold routeB;rw [hno.out,Bool.and_false]) (hfn.out _ (b_ hbr hb9))
    ·obtain rfl:j=n2:=by omega
     have hB:Hid (legsB r.stops r.rides=true):=(legsB_iff _ _ (by rw [l1.out,l2.out];omega)).2 fun k a b q ha hb hq=>hall.out k a b q (by have:=(List.getElem?_eq_some_iff.1 hq).1;rw [l2.out] at this;omega) ha hb hq;clear hall;go_wp2_with fail;go_returns;exact RetE.yes (by unfold routeB;rw [hA.out,hB.out];rfl) (b_ hb1H hbr.out)
