/- Texts of one chain, merged. -/
import Derived.Test.YtechdefolfboeaaGreatDoorCc1
import Derived.Test.YtechdefolfboeaaGreatDoorCc36
set_option linter.unusedVariables false
set_option linter.unusedSimpArgs false
set_option maxHeartbeats 4000000
namespace Go.Proofs.YtechdefolfboeaaGreatDoor
open Go.RowKit B
set_option maxRecDepth 100000 in
theorem first9_any (M:WorldP) (V:WV) (we:World) (hr:RW we M V) (hf:Few M) (hsh: ∀ r∈M.routes,r.rides.length+1=r.stops.length):Calls Tryz.prog 146 #[wVal M V] we (RetW we (firstB M)):=by
 obtain⟨a0,a1,a2,a3,a4,a5,aP,aD,aR,aT,aH,n0,n1,n2,n3,n4,n5,nP,nD,nR,nT,nH,c0,c1,c2,c3,c4,c5,cP,cD,cR,cT,cH⟩:=V
 have LP:Hid (M.paths.length=nP):=hr.rP.len
 have LD:Hid (M.doors.length=nD):=hr.rD.len
 have LR:Hid (M.routes.length=nR):=hr.rR.len
 have LT:Hid (M.trips.length=nT):=hr.rT.len
 have LH:Hid (M.hazs.length=nH):=hr.rH.len
 have mP:nP≤100000:=by have:=hf.sP;have:=LP.out;omega
 have mD:nD≤100000:=by have:=hf.sD;have:=LD.out;omega
 have mR:nR≤100000:=by have:=hf.sR;have:=LR.out;omega
 have mT:nT≤100000:=by have:=hf.sT;have:=LT.out;omega
 have mH:nH≤100000:=by have:=hf.sH;have:=LH.out;omega
 have hfr:=Lib.hid hf.sr
 have hsp:=Lib.hid hsh
 obtain⟨hz,hhz⟩: ∃ q,M.hz=q:=⟨_,rfl⟩
 have Hhz:=Lib.hid hhz
 simp only [wVal]
 rw [hhz]
 have hb1:=below_alloc we #[.int .i64 hz,.slice a0 n0 c0,.slice a1 n1 c1,.slice a2 n2 c2,.slice a3 n3 c3,.slice a4 n4 c4,.slice a5 n5 c5,.slice aP nP cP,.slice aD nD cD,.slice aR nR cR,.slice aT nT cT,.slice aH nH cH] 31
 have B1:=Bx.new we 31 [.int .i64 hz,.slice a0 n0 c0,.slice a1 n1 c1,.slice a2 n2 c2,.slice a3 n3 c3,.slice a4 n4 c4,.slice a5 n5 c5,.slice aP nP cP,.slice aD nD cD,.slice aR nR cR,.slice aT nT cT,.slice aH nH cH]
 obtain⟨w1,hw1⟩: ∃ q,we.alloc (.cells #[.int .i64 hz,.slice a0 n0 c0,.slice a1 n1 c1,.slice a2 n2 c2,.slice a3 n3 c3,.slice a4 n4 c4,.slice a5 n5 c5,.slice aP nP cP,.slice aD nD cD,.slice aR nR cR,.slice aT nT cT,.slice aH nH cH] 31)=q:=⟨_,rfl⟩
 change Bx (we.alloc (.cells #[.int .i64 hz,.slice a0 n0 c0,.slice a1 n1 c1,.slice a2 n2 c2,.slice a3 n3 c3,.slice a4 n4 c4,.slice a5 n5 c5,.slice aP nP cP,.slice aD nD cD,.slice aR nR cR,.slice aT nT cT,.slice aH nH cH] 31)) _ _ _ at B1
 rw [hw1] at hb1 B1
 have hb2:=below_alloc w1 #[.int .i64 0,.int .i64 0,.int .i64 0] 81
 have B2:=Bx.new w1 81 [.int .i64 0,.int .i64 0,.int .i64 0]
 obtain⟨w2,hw2⟩: ∃ q,w1.alloc (.cells #[.int .i64 0,.int .i64 0,.int .i64 0] 81)=q:=⟨_,rfl⟩
 change Bx (w1.alloc (.cells #[.int .i64 0,.int .i64 0,.int .i64 0] 81)) _ _ _ at B2
 rw [hw2] at hb2 B2
 obtain⟨bn,hbn⟩: ∃ q,we.heap.size=q:=⟨_,rfl⟩
 obtain⟨bw,hq1⟩: ∃ q,bn+1=q:=⟨_,rfl⟩
 have hbwE:w1.heap.size=bw:=by rw [←hq1,←hbn,←hw1];simp
 rw [hbn] at B1
 rw [hbwE] at B2
 have hbew:Hid (we.heap.size≤bw):=by have:=hb1.size;show _≤_;omega
 have hup:Hid (Below we.heap.size we w2):=u_ hb1 hb2
 have hR:=Lib.hid (hr.below hup.out)
 have B3:=Lib.hid B2
 have B:=Lib.hid (B1.below hb2)
 clear B1 hb1 hb2 B2 hr hf hsh hhz
 go_enter Tryz.func146,Tryz.ntmps146
 go_wp2_with fail
 clear hw1 hw2 hbn hq1 hbwE
 go_loopw [3] (fun iv wr=> ∃ i:Nat,i≤nP∧iv= .int .i64 i∧Hid ((M.paths.take i).all (fun p=>wayB p.1 p.2.1 p.2.2)=true)∧Hid (Below w2.heap.size w2 wr)) (fun iv _=>nP-(intOf iv).toNat)
 case atStart=>exact⟨0,Nat.zero_le _,rfl,rfl,Below.refl _ _⟩
 case round=>
  obtain⟨i,hi,rfl,hall,hb⟩:=hrel
  have y0:=(B.out.below hb.out).cell 7 rfl
  by_cases hin:i<nP
  ·have hinI:(i:Int)<(nP:Int):=by omega
   obtain⟨b,o,⟨q0,q1,q2⟩,rfl,hbs,hx0,hc0⟩:=(hR.out.below hb.out).rP.get hin
   have f0:=hc0 0 _ rfl
   have f1:=hc0 1 _ rfl
   have f2:=hc0 2 _ rfl
   simp only [Nat.add_zero] at f0
   clear hc0
   have hx:=Lib.hid hx0
   go_upto_region 4 with fail
   refine wp_region_below wr.heap.size (by kernel_rfl) (by kernel_rfl) ?_
   intro C hC
   repeat(go_big_quiet_step (first
    |((intro _;with_reducible rfl))
    |(intro hc;have hcw:=b_ hb hc;have m0:=(B.out.below hcw).cell 7 rfl;have m1:=c_ hc hbs f0;have m2:=c_ hc hbs f1;have m3:=c_ hc hbs f2;simp only [m0,m1,m2,m3,Result.andThen];exact⟨trivial,rfl⟩)
    |(intro hc;with_reducible refine(way_any _ _ _ _).mono ?_;rintro e w'' ⟨rfl,rfl⟩;exact⟨rfl,hc⟩)))
   refine wpQuiet_nil ?_
   intro w9 hb9
   clear hC
   have hb9H:Hid (Below w2.heap.size w2 w9):=b_ hb hb9
   clear hb9
   by_cases he:wayE q0 q1 q2=0
   ·have hnx:=Lib.hid (all_snoc (f:=(fun p=>wayB p.1 p.2.1 p.2.2)) hall.out hx.out (wayE_iff.1 he))
    go_wp2_with fail
    go_roundw
    case rel=>exact⟨i+1,by omega,by go_num,hnx,hb9H⟩
    case measure=>simp [intOf];omega
   ·have hne:(wayE q0 q1 q2 !=0)=true:=by simp [he]
    have hno:Hid (firstB M=false):=by show _=_;unfold firstB;rw [all_not (f:=(fun p=>wayB p.1 p.2.1 p.2.2)) hx.out (Bool.eq_false_iff.2 fun h=>he (wayE_iff.2 h))];simp
    go_wp2_with fail
    refine(wrong_any (wayE q0 q1 q2) 2 (i:Int) w9).mono ?_;rintro e wv ⟨rfl,hbv⟩
    have hBw:=(B3.out.below hb9H.out).below hbv
    obtain⟨hBF,hbF⟩:=hBw.row [.int .i64 (wayE q0 q1 q2),.int .i64 2,.int .i64 (i:Int)]
    obtain⟨wF,hwF⟩: ∃ q,wv.setRow bw (List.toArray [.int .i64 (wayE q0 q1 q2),.int .i64 2,.int .i64 (i:Int)])=q:=⟨_,rfl⟩
    rw [hwF] at hBF hbF
    have h39:=b_ hup (u_ hb9H.out hbv)
    have hfin:Hid (Below we.heap.size we wF):=h39.trans (hbF.below h39.size (fun x hx=>by simp only [List.mem_singleton] at hx;subst hx;exact hbew.out))
    have hBF:=Lib.hid hBF
    rename_i g1X
    clear g1X hbF h39 hbv
    go_wp2_with (with_reducible refine wpList_store_bx (.tmp 2) (.tmp 43) 81 (by with_reducible rfl) ?a1 ?a2 ?a3 hBw ?a4 ?a5 ?a6 hwF ?_)
    case a1=>rfl
    case a2=>rfl
    case a3=>rfl
    case a4=>kernel_rfl
    case a5=>rfl
    case a6=>rfl
    refine bodyPost_bx (s:=2) (t:=81) rfl rfl hBF.out (by kernel_rfl) (by kernel_rfl) rfl ?_
    exact⟨_,_,_,rfl,⟨fun h=>absurd h (he),fun h=>by rw [hno.out] at h;cases h⟩,hfin.out⟩
  ·obtain rfl:nP=i:=by omega
   have KP:=Lib.hid (all_done hall.out LP.out)
   have hbp:=hb
   clear hall hb hi hin
   obtain⟨wp,hwp⟩: ∃ q,q=wr:=⟨_,rfl⟩
   subst hwp
   go_wp2_with fail
   go_loopw [5] (fun iv wr=> ∃ i:Nat,i≤nD∧iv= .int .i64 i∧Hid ((M.doors.take i).all (fun d=>wayB d.a d.b d.len&&timesB d.fr d.ev d.du M.hz)=true)∧Hid (Below w2.heap.size w2 wr)) (fun iv _=>nD-(intOf iv).toNat)
   case atStart=>exact⟨0,Nat.zero_le _,rfl,rfl,hbp⟩
   case round=>
    clear y0
    obtain⟨i,hi,rfl,hall,hb⟩:=hrel
    have y0:=(B.out.below hb.out).cell 8 rfl
    by_cases hin:i<nD
    ·have hinI:(i:Int)<(nD:Int):=by omega
     obtain⟨b,o,⟨q0,q1,q2,q3,q4,q5⟩,rfl,hbs,hx0,hc0⟩:=(hR.out.below hb.out).rD.get hin
     have f0:=hc0 0 _ rfl
     have f1:=hc0 1 _ rfl
     have f2:=hc0 2 _ rfl
     have f3:=hc0 3 _ rfl
     have f4:=hc0 4 _ rfl
     have f5:=hc0 5 _ rfl
     simp only [Nat.add_zero] at f0
     clear hc0
     have hx:=Lib.hid hx0
     go_upto_region 10 with fail
     refine wp_region_below wr.heap.size (by kernel_rfl) (by kernel_rfl) ?_
     intro C hC
     repeat(go_big_quiet_step (first
      |((intro _;with_reducible rfl))
      |(intro hc;have hcw:=b_ hb hc;have m0:=(B.out.below hcw).cell 8 rfl;have m1:=c_ hc hbs f0;have m2:=c_ hc hbs f1;have m3:=c_ hc hbs f2;simp only [m0,m1,m2,m3,Result.andThen];exact⟨trivial,rfl⟩)
      |(intro hc;with_reducible refine(way_any _ _ _ _).mono ?_;rintro e w'' ⟨rfl,rfl⟩;exact⟨rfl,hc⟩)))
     refine wpQuiet_nil ?_
     intro w9 hb9
     clear hC
     have hb9z:=hb9
     have hb9H:Hid (Below w2.heap.size w2 w9):=b_ hb hb9
     clear hb9
     by_cases he:wayE q0 q1 q2=0
     ·have hbs2:b<w2.heap.size∨True:= .inr trivial
      clear hbs2
      have G3:=c_ hb9z hbs f3
      have G4:=c_ hb9z hbs f4
      have G5:=c_ hb9z hbs f5
      have hbs9:=Nat.lt_of_lt_of_le hbs hb9z.size
      clear hb9z
      go_upto_region 12 with fail
      refine wp_region_below w9.heap.size (by kernel_rfl) (by kernel_rfl) ?_
      intro C hC
      repeat(go_big_quiet_step (first
       |((intro _;with_reducible rfl))
       |(intro hc;have hcw:=b_ hb9H hc;have m0:=(B.out.below hcw).cell 8 rfl;have m1:=(B.out.below hcw).cell 0 rfl;have m2:=c_ hc hbs9 G3;have m3:=c_ hc hbs9 G4;have m4:=c_ hc hbs9 G5;simp only [m0,m1,m2,m3,m4,Result.andThen];exact⟨trivial,rfl⟩)
       |(intro hc;with_reducible refine(times_any _ _ _ _ _).mono ?_;rintro e w'' ⟨rfl,hw⟩;exact⟨rfl,u_ hc hw⟩)))
      refine wpQuiet_nil ?_
      intro w8 hb8
      clear hC
      have hb8H:Hid (Below w2.heap.size w2 w8):=b_ hb9H hb8
      clear hb8
      by_cases ht:timesE q3 q4 q5 hz=0
      ·have hnx:=Lib.hid (all_snoc (f:=(fun d=>wayB d.a d.b d.len&&timesB d.fr d.ev d.du M.hz)) hall.out hx.out (by simp only [Bool.and_eq_true];exact⟨wayE_iff.1 he,by rw [Hhz.out];exact timesE_iff.1 ht⟩))
       go_wp2_with fail
       go_roundw
       case rel=>exact⟨i+1,by omega,by go_num,hnx,hb8H⟩
       case measure=>simp [intOf];omega
      ·have hne:(timesE q3 q4 q5 hz !=0)=true:=by simp [ht]
       have hno:Hid (firstB M=false):=by show _=_;unfold firstB;rw [all_not (f:=(fun d=>wayB d.a d.b d.len&&timesB d.fr d.ev d.du M.hz)) hx.out (Bool.eq_false_iff.2 fun h=>ht (timesE_iff.2 (by simp only [Bool.and_eq_true] at h;rw [Hhz.out] at h;exact h.2)))];simp
       go_wp2_with fail
       refine(wrong_any (timesE q3 q4 q5 hz) 3 (i:Int) w8).mono ?_;rintro e wv ⟨rfl,hbv⟩
       have hBw:=(B3.out.below hb8H.out).below hbv
       obtain⟨hBF,hbF⟩:=hBw.row [.int .i64 (timesE q3 q4 q5 hz),.int .i64 3,.int .i64 (i:Int)]
       obtain⟨wF,hwF⟩: ∃ q,wv.setRow bw (List.toArray [.int .i64 (timesE q3 q4 q5 hz),.int .i64 3,.int .i64 (i:Int)])=q:=⟨_,rfl⟩
       rw [hwF] at hBF hbF
       have h39:=b_ hup (u_ hb8H.out hbv)
       have hfin:Hid (Below we.heap.size we wF):=h39.trans (hbF.below h39.size (fun x hx=>by simp only [List.mem_singleton] at hx;subst hx;exact hbew.out))
       have hBF:=Lib.hid hBF
       rename_i g1X
       clear g1X hbF h39 hbv
       go_wp2_with (with_reducible refine wpList_store_bx (.tmp 2) (.tmp 85) 81 (by with_reducible rfl) ?c1 ?c2 ?c3 hBw ?c4 ?c5 ?c6 hwF ?_)
       case c1=>rfl
       case c2=>rfl
       case c3=>rfl
       case c4=>kernel_rfl
       case c5=>rfl
       case c6=>rfl
       refine bodyPost_bx (s:=2) (t:=81) rfl rfl hBF.out (by kernel_rfl) (by kernel_rfl) rfl ?_
       exact⟨_,_,_,rfl,⟨fun h=>absurd h (ht),fun h=>by rw [hno.out] at h;cases h⟩,hfin.out⟩
     ·have hne:(wayE q0 q1 q2 !=0)=true:=by simp [he]
      have hne2:(wayE q0 q1 q2==0)=false:=by simp [he]
      have hno:Hid (firstB M=false):=by show _=_;unfold firstB;rw [all_not (f:=(fun d=>wayB d.a d.b d.len&&timesB d.fr d.ev d.du M.hz)) hx.out (Bool.eq_false_iff.2 fun h=>he (wayE_iff.2 (by simp only [Bool.and_eq_true] at h;exact h.1)))];simp
      go_wp2_with fail
      refine(wrong_any (wayE q0 q1 q2) 3 (i:Int) w9).mono ?_;rintro e wv ⟨rfl,hbv⟩
      have hBw:=(B3.out.below hb9H.out).below hbv
      obtain⟨hBF,hbF⟩:=hBw.row [.int .i64 (wayE q0 q1 q2),.int .i64 3,.int .i64 (i:Int)]
      obtain⟨wF,hwF⟩: ∃ q,wv.setRow bw (List.toArray [.int .i64 (wayE q0 q1 q2),.int .i64 3,.int .i64 (i:Int)])=q:=⟨_,rfl⟩
      rw [hwF] at hBF hbF
      have h39:=b_ hup (u_ hb9H.out hbv)
      have hfin:Hid (Below we.heap.size we wF):=h39.trans (hbF.below h39.size (fun x hx=>by simp only [List.mem_singleton] at hx;subst hx;exact hbew.out))
      have hBF:=Lib.hid hBF
      rename_i g1X
      clear g1X hbF h39 hbv
      go_wp2_with (with_reducible refine wpList_store_bx (.tmp 2) (.tmp 85) 81 (by with_reducible rfl) ?b1 ?b2 ?b3 hBw ?b4 ?b5 ?b6 hwF ?_)
      case b1=>rfl
      case b2=>rfl
      case b3=>rfl
      case b4=>kernel_rfl
      case b5=>rfl
      case b6=>rfl
      refine bodyPost_bx (s:=2) (t:=81) rfl rfl hBF.out (by kernel_rfl) (by kernel_rfl) rfl ?_
      exact⟨_,_,_,rfl,⟨fun h=>absurd h (he),fun h=>by rw [hno.out] at h;cases h⟩,hfin.out⟩
    ·obtain rfl:nD=i:=by omega
     have KD:=Lib.hid (all_done hall.out LD.out)
     have hbp:=hb
     clear hall hb hi hin
     obtain⟨wp,hwp⟩: ∃ q,q=wr:=⟨_,rfl⟩
     subst hwp
     go_wp2_with fail
     go_loopw [7] (fun iv wr=> ∃ i:Nat,i≤nR∧iv= .int .i64 i∧Hid ((M.routes.take i).all routeB=true)∧Hid (Below w2.heap.size w2 wr)) (fun iv _=>nR-(intOf iv).toNat)
     case atStart=>exact⟨0,Nat.zero_le _,rfl,rfl,hbp⟩
     case round=>
      clear y0
      obtain⟨i,hi,rfl,hall,hb⟩:=hrel
      have y0:=(B.out.below hb.out).cell 9 rfl
      by_cases hin:i<nR
      ·have hinI:(i:Int)<(nR:Int):=by omega
       obtain⟨b,o,r,rfl,hbs,hx0,⟨s1,m1,d1,f1,rs1,e11,e12⟩,⟨s2,m2,d2,f2,rs2,e21,e22⟩,⟨s3,m3,d3,f3,rs3,e31,e32⟩⟩:=(hR.out.below hb.out).rR.get hin
       have hx:=Lib.hid hx0
       have hl:=hfr.out r (List.mem_of_getElem? hx0)
       have hsh:=hsp.out r (List.mem_of_getElem? hx0)
       have hrt:=Lib.hid (route_any r s1 s2 s3 m1 m2 m3 d1 d2 d3 wr rs1 rs2 (by have:=rs1.len;omega) (by have:=rs1.len;have:=rs2.len;omega))
       clear rs1 rs2 rs3 e11 e12 e21 e22 e31 e32 hl hsh hx0
       go_wp2_with fail
       refine hrt.out.mono ?_;rintro e w9 ⟨ec,rfl,hec,hb9⟩
       have hb9H:Hid (Below w2.heap.size w2 w9):=b_ hb hb9
       clear hb9 hrt
       have hecH:=Lib.hid hec
       clear hec
       by_cases he:ec=0
       ·subst he
        have hnx:=Lib.hid (all_snoc (f:=routeB) hall.out hx.out (hecH.out.1 rfl))
        go_wp2_with fail
        go_roundw
        case rel=>exact⟨i+1,by omega,by go_num,hnx,hb9H⟩
        case measure=>simp [intOf];omega
       ·have hne:(ec !=0)=true:=by simp [he]
        have hno:Hid (firstB M=false):=by show _=_;unfold firstB;rw [all_not (f:=routeB) hx.out (Bool.eq_false_iff.2 fun h=>he (hecH.out.2 h))];simp
        go_wp2_with fail
        refine(wrong_any (ec) 4 (i:Int) w9).mono ?_;rintro e wv ⟨rfl,hbv⟩
        have hBw:=(B3.out.below hb9H.out).below hbv
        obtain⟨hBF,hbF⟩:=hBw.row [.int .i64 (ec),.int .i64 4,.int .i64 (i:Int)]
        obtain⟨wF,hwF⟩: ∃ q,wv.setRow bw (List.toArray [.int .i64 (ec),.int .i64 4,.int .i64 (i:Int)])=q:=⟨_,rfl⟩
        rw [hwF] at hBF hbF
        have h39:=b_ hup (u_ hb9H.out hbv)
        have hfin:Hid (Below we.heap.size we wF):=h39.trans (hbF.below h39.size (fun x hx=>by simp only [List.mem_singleton] at hx;subst hx;exact hbew.out))
        have hBF:=Lib.hid hBF
        rename_i g1X
        clear g1X hbF h39 hbv
        go_wp2_with (with_reducible refine wpList_store_bx (.tmp 2) (.tmp 103) 81 (by with_reducible rfl) ?d1 ?d2 ?d3 hBw ?d4 ?d5 ?d6 hwF ?_)
        case d1=>rfl
        case d2=>rfl
        case d3=>rfl
        case d4=>kernel_rfl
        case d5=>rfl
        case d6=>rfl
        refine bodyPost_bx (s:=2) (t:=81) rfl rfl hBF.out (by kernel_rfl) (by kernel_rfl) rfl ?_
        exact⟨_,_,_,rfl,⟨fun h=>absurd h (he),fun h=>by rw [hno.out] at h;cases h⟩,hfin.out⟩
      ·obtain rfl:nR=i:=by omega
       have KR:=Lib.hid (all_done hall.out LR.out)
       have hbp:=hb
       clear hall hb hi hin
       obtain⟨wp,hwp⟩: ∃ q,q=wr:=⟨_,rfl⟩
       subst hwp
       go_wp2_with fail
       go_loopw [9] (fun iv wr=> ∃ i:Nat,i≤nT∧iv= .int .i64 i∧Hid ((M.trips.take i).all (fun t=>decide (0≤t.route)&&decide (t.fr≤t.un))=true)∧Hid (Below w2.heap.size w2 wr)) (fun iv _=>nT-(intOf iv).toNat)
       case atStart=>exact⟨0,Nat.zero_le _,rfl,rfl,hbp⟩
       case round=>
        clear y0
        obtain⟨i,hi,rfl,hall,hb⟩:=hrel
        have y0:=(B.out.below hb.out).cell 10 rfl
        by_cases hin:i<nT
        ·have hinI:(i:Int)<(nT:Int):=by omega
         obtain⟨b,o,⟨q0,q1,q2,q3⟩,rfl,hbs,hx0,hc0⟩:=(hR.out.below hb.out).rT.get hin
         have f0:=hc0 0 _ rfl
         have f1:=hc0 1 _ rfl
         have f2:=hc0 2 _ rfl
         have f3:=hc0 3 _ rfl
         simp only [Nat.add_zero] at f0
         clear hc0
         have hx:=Lib.hid hx0
         have hbt:Hid (Below w2.heap.size w2 (wr.alloc (.cells #[.int .i64 q0,.int .i64 q1,.int .i64 q2,.int .i64 q3] 53))):=b_ hb (below_alloc wr _ _)
         by_cases h0:q0<0
         ·have hno:Hid (firstB M=false):=by show _=_;unfold firstB;rw [all_not (f:=(fun t=>decide (0≤t.route)&&decide (t.fr≤t.un))) hx.out (by simp;omega)];simp
          go_wp2_with fail
          refine(wrong_any (5) 5 (i:Int) (wr.alloc (.cells #[.int .i64 q0,.int .i64 q1,.int .i64 q2,.int .i64 q3] 53))).mono ?_;rintro e wv ⟨rfl,hbv⟩
          have hBw:=(B3.out.below hbt.out).below hbv
          obtain⟨hBF,hbF⟩:=hBw.row [.int .i64 (5),.int .i64 5,.int .i64 (i:Int)]
          obtain⟨wF,hwF⟩: ∃ q,wv.setRow bw (List.toArray [.int .i64 (5),.int .i64 5,.int .i64 (i:Int)])=q:=⟨_,rfl⟩
          rw [hwF] at hBF hbF
          have h39:=b_ hup (u_ hbt.out hbv)
          have hfin:Hid (Below we.heap.size we wF):=h39.trans (hbF.below h39.size (fun x hx=>by simp only [List.mem_singleton] at hx;subst hx;exact hbew.out))
          have hBF:=Lib.hid hBF
          rename_i g1X
          clear g1X hbF h39 hbv
          go_wp2_with (with_reducible refine wpList_store_bx (.tmp 2) (.tmp 120) 81 (by with_reducible rfl) ?e1 ?e2 ?e3 hBw ?e4 ?e5 ?e6 hwF ?_)
          case e1=>rfl
          case e2=>rfl
          case e3=>rfl
          case e4=>kernel_rfl
          case e5=>rfl
          case e6=>rfl
          refine bodyPost_bx (s:=2) (t:=81) rfl rfl hBF.out (by kernel_rfl) (by kernel_rfl) rfl ?_
          exact⟨_,_,_,rfl,⟨fun h=>absurd h (by decide),fun h=>by rw [hno.out] at h;cases h⟩,hfin.out⟩
         ·by_cases h1:q3<q1
          ·have hno:Hid (firstB M=false):=by show _=_;unfold firstB;rw [all_not (f:=(fun t=>decide (0≤t.route)&&decide (t.fr≤t.un))) hx.out (by simp;omega)];simp
           go_wp2_with fail
           refine(wrong_any (2) 5 (i:Int) (wr.alloc (.cells #[.int .i64 q0,.int .i64 q1,.int .i64 q2,.int .i64 q3] 53))).mono ?_;rintro e wv ⟨rfl,hbv⟩
           have hBw:=(B3.out.below hbt.out).below hbv
           obtain⟨hBF,hbF⟩:=hBw.row [.int .i64 (2),.int .i64 5,.int .i64 (i:Int)]
           obtain⟨wF,hwF⟩: ∃ q,wv.setRow bw (List.toArray [.int .i64 (2),.int .i64 5,.int .i64 (i:Int)])=q:=⟨_,rfl⟩
           rw [hwF] at hBF hbF
           have h39:=b_ hup (u_ hbt.out hbv)
           have hfin:Hid (Below we.heap.size we wF):=h39.trans (hbF.below h39.size (fun x hx=>by simp only [List.mem_singleton] at hx;subst hx;exact hbew.out))
           have hBF:=Lib.hid hBF
           rename_i g1X
           clear g1X hbF h39 hbv
           go_wp2_with (with_reducible refine wpList_store_bx (.tmp 2) (.tmp 127) 81 (by with_reducible rfl) ?f1 ?f2 ?f3 hBw ?f4 ?f5 ?f6 hwF ?_)
           case f1=>rfl
           case f2=>rfl
           case f3=>rfl
           case f4=>kernel_rfl
           case f5=>rfl
           case f6=>rfl
           refine bodyPost_bx (s:=2) (t:=81) rfl rfl hBF.out (by kernel_rfl) (by kernel_rfl) rfl ?_
           exact⟨_,_,_,rfl,⟨fun h=>absurd h (by decide),fun h=>by rw [hno.out] at h;cases h⟩,hfin.out⟩
          ·have hnx:=Lib.hid (all_snoc (f:=(fun t=>decide (0≤t.route)&&decide (t.fr≤t.un))) hall.out hx.out (by simp;omega))
           go_wp2_with fail
           go_roundw
           case rel=>exact⟨i+1,by omega,by go_num,hnx,hbt⟩
           case measure=>simp [intOf];omega
        ·obtain rfl:nT=i:=by omega
         have KT:=Lib.hid (all_done hall.out LT.out)
         have hbp:=hb
         clear hall hb hi hin
         obtain⟨wp,hwp⟩: ∃ q,q=wr:=⟨_,rfl⟩
         subst hwp
         go_wp2_with fail
         go_loopw [11] (fun iv wr=> ∃ i:Nat,i≤nH∧iv= .int .i64 i∧Hid ((M.hazs.take i).all (fun h=>decide (0≤h.on)&&timesB h.fr h.ev h.du M.hz)=true)∧Hid (Below w2.heap.size w2 wr)) (fun iv _=>nH-(intOf iv).toNat)
         case atStart=>exact⟨0,Nat.zero_le _,rfl,rfl,hbp⟩
         case round=>
          clear y0
          obtain⟨i,hi,rfl,hall,hb⟩:=hrel
          have y0:=(B.out.below hb.out).cell 11 rfl
          by_cases hin:i<nH
          ·have hinI:(i:Int)<(nH:Int):=by omega
           obtain⟨b,o,⟨q0,q1,q2,q3,q4⟩,rfl,hbs,hx0,hc0⟩:=(hR.out.below hb.out).rH.get hin
           have f0:=hc0 0 _ rfl
           have f1:=hc0 1 _ rfl
           have f2:=hc0 2 _ rfl
           have f3:=hc0 3 _ rfl
           have f4:=hc0 4 _ rfl
           simp only [Nat.add_zero] at f0
           clear hc0
           have hx:=Lib.hid hx0
           go_upto_region 32 with fail
           refine wp_region_below wr.heap.size (by kernel_rfl) (by kernel_rfl) ?_
           intro C hC
           repeat(go_big_quiet_step (first
            |((intro _;with_reducible rfl))
            |(intro hc;have hcw:=b_ hb hc;have m0:=(B.out.below hcw).cell 11 rfl;have m1:=(B.out.below hcw).cell 0 rfl;have m2:=c_ hc hbs f2;have m3:=c_ hc hbs f3;have m4:=c_ hc hbs f4;simp only [m0,m1,m2,m3,m4,Result.andThen];exact⟨trivial,rfl⟩)
            |(intro hc;with_reducible refine(times_any _ _ _ _ _).mono ?_;rintro e w'' ⟨rfl,hw⟩;exact⟨rfl,u_ hc hw⟩)))
           refine wpQuiet_nil ?_
           intro w9 hb9
           clear hC
           have G1:=c_ hb9 hbs f1
           have hb9H:Hid (Below w2.heap.size w2 w9):=b_ hb hb9
           clear hb9
           have z0:=(B.out.below hb9H.out).cell 11 rfl
           by_cases h0:q1<0
           ·have hno:Hid (firstB M=false):=by show _=_;unfold firstB;rw [all_not (f:=(fun h=>decide (0≤h.on)&&timesB h.fr h.ev h.du M.hz)) hx.out (Bool.eq_false_iff.2 fun h=>by simp only [Bool.and_eq_true,decide_eq_true_eq] at h;omega)];simp
            go_wp2_with fail
            refine(wrong_any (5) 6 (i:Int) w9).mono ?_;rintro e wv ⟨rfl,hbv⟩
            have hBw:=(B3.out.below hb9H.out).below hbv
            obtain⟨hBF,hbF⟩:=hBw.row [.int .i64 (5),.int .i64 6,.int .i64 (i:Int)]
            obtain⟨wF,hwF⟩: ∃ q,wv.setRow bw (List.toArray [.int .i64 (5),.int .i64 6,.int .i64 (i:Int)])=q:=⟨_,rfl⟩
            rw [hwF] at hBF hbF
            have h39:=b_ hup (u_ hb9H.out hbv)
            have hfin:Hid (Below we.heap.size we wF):=h39.trans (hbF.below h39.size (fun x hx=>by simp only [List.mem_singleton] at hx;subst hx;exact hbew.out))
            have hBF:=Lib.hid hBF
            rename_i g1X
            clear g1X hbF h39 hbv
            go_wp2_with (with_reducible refine wpList_store_bx (.tmp 2) (.tmp 155) 81 (by with_reducible rfl) ?g1 ?g2 ?g3 hBw ?g4 ?g5 ?g6 hwF ?_)
            case g1=>rfl
            case g2=>rfl
            case g3=>rfl
            case g4=>kernel_rfl
            case g5=>rfl
            case g6=>rfl
            refine bodyPost_bx (s:=2) (t:=81) rfl rfl hBF.out (by kernel_rfl) (by kernel_rfl) rfl ?_
            exact⟨_,_,_,rfl,⟨fun h=>absurd h (by decide),fun h=>by rw [hno.out] at h;cases h⟩,hfin.out⟩
           ·by_cases ht:timesE q2 q3 q4 hz=0
            ·have hnx:=Lib.hid (all_snoc (f:=(fun h=>decide (0≤h.on)&&timesB h.fr h.ev h.du M.hz)) hall.out hx.out (by simp only [Bool.and_eq_true,decide_eq_true_eq];exact⟨by omega,by rw [Hhz.out];exact timesE_iff.1 ht⟩))
             go_wp2_with fail
             go_roundw
             case rel=>exact⟨i+1,by omega,by go_num,hnx,hb9H⟩
             case measure=>simp [intOf];omega
            ·have hne:(timesE q2 q3 q4 hz !=0)=true:=by simp [ht]
             have hno:Hid (firstB M=false):=by show _=_;unfold firstB;rw [all_not (f:=(fun h=>decide (0≤h.on)&&timesB h.fr h.ev h.du M.hz)) hx.out (Bool.eq_false_iff.2 fun h=>ht (timesE_iff.2 (by simp only [Bool.and_eq_true] at h;rw [Hhz.out] at h;exact h.2)))];simp
             go_wp2_with fail
             refine(wrong_any (timesE q2 q3 q4 hz) 6 (i:Int) w9).mono ?_;rintro e wv ⟨rfl,hbv⟩
             have hBw:=(B3.out.below hb9H.out).below hbv
             obtain⟨hBF,hbF⟩:=hBw.row [.int .i64 (timesE q2 q3 q4 hz),.int .i64 6,.int .i64 (i:Int)]
             obtain⟨wF,hwF⟩: ∃ q,wv.setRow bw (List.toArray [.int .i64 (timesE q2 q3 q4 hz),.int .i64 6,.int .i64 (i:Int)])=q:=⟨_,rfl⟩
             rw [hwF] at hBF hbF
             have h39:=b_ hup (u_ hb9H.out hbv)
             have hfin:Hid (Below we.heap.size we wF):=h39.trans (hbF.below h39.size (fun x hx=>by simp only [List.mem_singleton] at hx;subst hx;exact hbew.out))
             have hBF:=Lib.hid hBF
             rename_i g1X
             clear g1X hbF h39 hbv
             go_wp2_with (with_reducible refine wpList_store_bx (.tmp 2) (.tmp 155) 81 (by with_reducible rfl) ?h1 ?h2 ?h3 hBw ?h4 ?h5 ?h6 hwF ?_)
             case h1=>rfl
             case h2=>rfl
             case h3=>rfl
             case h4=>kernel_rfl
             case h5=>rfl
             case h6=>rfl
             refine bodyPost_bx (s:=2) (t:=81) rfl rfl hBF.out (by kernel_rfl) (by kernel_rfl) rfl ?_
             exact⟨_,_,_,rfl,⟨fun h=>absurd h (ht),fun h=>by rw [hno.out] at h;cases h⟩,hfin.out⟩
          ·obtain rfl:nH=i:=by omega
           have KH:=Lib.hid (all_done hall.out LH.out)
           have hbp:=hb
           clear hall hb hi hin
           obtain⟨wp,hwp⟩: ∃ q,q=wr:=⟨_,rfl⟩
           subst hwp
           have hyes:Hid (firstB M=true):=by show _=_;unfold firstB;rw [KP.out,KD.out,KR.out,KT.out,KH.out];rfl
           have hBw:=B3.out.below hbp.out
           obtain⟨hBF,hbF⟩:=hBw.row [.int .i64 0,.int .i64 0,.int .i64 0]
           obtain⟨wF,hwF⟩: ∃ q,wp.setRow bw (List.toArray [.int .i64 0,.int .i64 0,.int .i64 0])=q:=⟨_,rfl⟩
           rw [hwF] at hBF hbF
           have h39:=b_ hup hbp.out
           have hfin:Hid (Below we.heap.size we wF):=h39.trans (hbF.below h39.size (fun x hx=>by simp only [List.mem_singleton] at hx;subst hx;exact hbew.out))
           have hBF:=Lib.hid hBF
           clear hbF h39
           go_wp2_with (with_reducible refine wpList_store_bx (.tmp 2) (.tmp 156) 81 (by with_reducible rfl) ?y1 ?y2 ?y3 hBw ?y4 ?y5 ?y6 hwF ?_)
           case y1=>rfl
           case y2=>rfl
           case y3=>rfl
           case y4=>kernel_rfl
           case y5=>rfl
           case y6=>rfl
           refine bodyPost_bx (s:=2) (t:=81) rfl rfl hBF.out (by kernel_rfl) (by kernel_rfl) rfl ?_
           exact⟨_,_,_,rfl,⟨fun _=>hyes.out,fun _=>rfl⟩,hfin.out⟩
end Go.Proofs.YtechdefolfboeaaGreatDoor
