/- Texts of one chain, merged. -/
import Derived.Test.YtechdefolfboeaaGreatDoorCc1
import Derived.Test.YtechdefolfboeaaGreatDoorCc14
import Derived.Test.YtechdefolfboeaaGreatDoorCc24
import Derived.Test.YtechdefolfboeaaGreatDoorCc26
import Derived.Test.YtechdefolfboeaaGreatDoorCc35
import Derived.Test.YtechdefolfboeaaGreatDoorCc37
import Derived.Test.YtechdefolfboeaaGreatDoorCc38
import Derived.Test.YtechdefolfboeaaGreatDoorCc39
set_option linter.unusedVariables false
set_option linter.unusedSimpArgs false
set_option maxHeartbeats 4000000
namespace Go.Proofs.YtechdefolfboeaaGreatDoor
open Go.RowKit B
theorem rshape_rides {nm:Str→Bool} {X:SheetP} (h:sheetB nm X=true): ∀ r∈(numS X).routes,r.rides.length+1=r.stops.length:=fun r hr=>by
 unfold sheetB at h
 simp only [Bool.and_eq_true] at h
 obtain⟨q,hq,rfl⟩:=List.mem_map.1 (show r∈X.routes.map (numR X) from hr)
 have h1:=List.all_eq_true.1 h.2.2.2 q hq
 unfold shapeB at h1
 simp only [Bool.and_eq_true,decide_eq_true_eq] at h1
 simp only [numR,List.length_map]
 omega
theorem few_num {X:SheetP} (h:FewS X):Few (numS X):=
 ⟨h.s0,by simp only [numS,List.length_map];exact h.sP,by simp only [numS,List.length_map];exact h.sD,by simp only [numS,List.length_map];exact h.sR,by simp only [numS,List.length_map];exact h.sT,by simp only [numS,List.length_map];exact h.sH,
   by simp only [numS,List.length_map];exact h.sP,by simp only [numS,List.length_map];exact h.sD,by simp only [numS,List.length_map];exact h.sR,by simp only [numS,List.length_map];exact h.sT,by simp only [numS,List.length_map];exact h.sH,fun r hr=>by
    obtain⟨q,hq,rfl⟩:=List.mem_map.1 (show r∈X.routes.map (numR X) from hr)
    simpa [numR] using h.sr q hq⟩
theorem allN_flat (M:WorldP):allN M=[M.stops,M.nPaths,M.nDoors,M.nRoutes,M.nTrips,M.nHazs].flatten :=by simp [allN]
set_option maxRecDepth 100000 in
theorem make9_any (X:SheetP) (V:SV) (we:World) (hr:RS we X V) (hf:FewS X):Calls Tryz.prog 111 #[sVal X V] we (RetMk X we):=by
 obtain⟨a0,aP,aD,aR,aT,aH,n0,nP,nD,nR,nT,nH,c0,cP,cD,cR,cT,cH⟩:=V
 have hfl:=Lib.hid hf
 simp only [sVal]
 have hb1:=below_alloc we #[.int .i64 X.hz,.slice a0 n0 c0,.slice aP nP cP,.slice aD nD cD,.slice aR nR cR,.slice aT nT cT,.slice aH nH cH] 136
 have B1:=Bx.new we 136 [.int .i64 X.hz,.slice a0 n0 c0,.slice aP nP cP,.slice aD nD cD,.slice aR nR cR,.slice aT nT cT,.slice aH nH cH]
 obtain⟨w1,hw1⟩: ∃ q,we.alloc (.cells #[.int .i64 X.hz,.slice a0 n0 c0,.slice aP nP cP,.slice aD nD cD,.slice aR nR cR,.slice aT nT cT,.slice aH nH cH] 136)=q:=⟨_,rfl⟩
 change Bx (we.alloc (.cells #[.int .i64 X.hz,.slice a0 n0 c0,.slice aP nP cP,.slice aD nD cD,.slice aR nR cR,.slice aT nT cT,.slice aH nH cH] 136)) _ _ _ at B1
 rw [hw1] at hb1 B1
 have hb2:=below_alloc w1 #[.int .i64 0,.slice none 0 0,.slice none 0 0,.slice none 0 0,.slice none 0 0,.slice none 0 0,.slice none 0 0,.slice none 0 0,.slice none 0 0,.slice none 0 0,.slice none 0 0,.slice none 0 0] 31
 have B2:=Bx.new w1 31 [.int .i64 0,.slice none 0 0,.slice none 0 0,.slice none 0 0,.slice none 0 0,.slice none 0 0,.slice none 0 0,.slice none 0 0,.slice none 0 0,.slice none 0 0,.slice none 0 0,.slice none 0 0]
 obtain⟨w2,hw2⟩: ∃ q,w1.alloc (.cells #[.int .i64 0,.slice none 0 0,.slice none 0 0,.slice none 0 0,.slice none 0 0,.slice none 0 0,.slice none 0 0,.slice none 0 0,.slice none 0 0,.slice none 0 0,.slice none 0 0,.slice none 0 0] 31)=q:=⟨_,rfl⟩
 change Bx (w1.alloc (.cells #[.int .i64 0,.slice none 0 0,.slice none 0 0,.slice none 0 0,.slice none 0 0,.slice none 0 0,.slice none 0 0,.slice none 0 0,.slice none 0 0,.slice none 0 0,.slice none 0 0,.slice none 0 0] 31)) _ _ _ at B2
 rw [hw2] at hb2 B2
 have hb3:=below_alloc w2 #[.int .i64 0,.int .i64 0,.int .i64 0] 81
 have B3:=Bx.new w2 81 [.int .i64 0,.int .i64 0,.int .i64 0]
 obtain⟨w3,hw3⟩: ∃ q,w2.alloc (.cells #[.int .i64 0,.int .i64 0,.int .i64 0] 81)=q:=⟨_,rfl⟩
 change Bx (w2.alloc (.cells #[.int .i64 0,.int .i64 0,.int .i64 0] 81)) _ _ _ at B3
 rw [hw3] at hb3 B3
 obtain⟨bn,hbn⟩: ∃ q,we.heap.size=q:=⟨_,rfl⟩
 obtain⟨bq,hq1⟩: ∃ q,bn+1=q:=⟨_,rfl⟩
 obtain⟨bw,hq2⟩: ∃ q,bn+1+1=q:=⟨_,rfl⟩
 have hbqE:w1.heap.size=bq:=by rw [←hq1,←hbn,←hw1];simp
 have hbwE:w2.heap.size=bw:=by rw [←hq2,←hbn,←hw2,←hw1];simp
 rw [hbn] at B1
 rw [hbqE] at B2
 rw [hbwE] at B3
 have hup:Hid (Below we.heap.size we w3):=(u_ hb1 hb2).trans (hb3.mono (u_ hb1 hb2).size)
 have hbeq:Hid (we.heap.size≤bq):=by show _≤_;omega
 have hbew:Hid (we.heap.size≤bw):=by show _≤_;omega
 have hbwq:Hid (bw≠bq):=by show _≠_;omega
 have B1':=(B1.below hb2).below hb3
 have BQ:=Lib.hid (B2.below hb3)
 have BW:=Lib.hid B3
 have hR:=Lib.hid (hr.below hup.out)
 obtain⟨p0,p1,p2,p3,p4,p5,p6⟩:=c_7 B1'
 have B1:=Lib.hid B1'
 rename_i g1
 clear g1 B1' B2 B3 hb1 hb2 hb3 hr hf
 go_enter Tryz.func111,Tryz.ntmps111
 go_wp2_with fail
 refine(check5_any X ⟨a0,aP,aD,aR,aT,aH,n0,nP,nD,nR,nT,nH,c0,cP,cD,cR,cT,cH⟩ w3 hR.out hfl.out).mono ?_;rintro e w4 ⟨c,rfl,hc,hb4⟩
 have hcH:=Lib.hid hc
 clear hc hw1 hw2 hw3 hbn hq1 hq2 hbqE hbwE p0 p1 p2 p3 p4 p5 p6
 have hup4:Hid (Below we.heap.size we w4):=b_ hup hb4
 by_cases he:c=0
 ·subst he
  have hsB:Hid (sheetB nameB X=true):=hcH.out.1 rfl
  obtain⟨p0,p1,p2,p3,p4,p5,p6⟩:=c_7 (B1.out.below hb4)
  have hb4H:=Lib.hid hb4
  clear hb4
  go_wp2_with fail
  refine(rnumbered_any X ⟨a0,aP,aD,aR,aT,aH,n0,nP,nD,nR,nT,nH,c0,cP,cD,cR,cT,cH⟩ w4 (hR.out.below hb4H.out) hfl.out).mono ?_;rintro e w5 ⟨⟨A0,A1,A2,A3,A4,A5,AP,AD,AR,AT,AH,N0,N1,N2,N3,N4,N5,NP,ND,NR,NT,NH,K0,K1,K2,K3,K4,K5,KP,KD,KR,KT,KH⟩,rfl,hRW,hb5⟩
  clear p0 p1 p2 p3 p4 p5 p6
  simp only [wVal,numS]
  have hb6:=below_alloc w5 #[.int .i64 X.hz,.slice A0 N0 K0,.slice A1 N1 K1,.slice A2 N2 K2,.slice A3 N3 K3,.slice A4 N4 K4,.slice A5 N5 K5,.slice AP NP KP,.slice AD ND KD,.slice AR NR KR,.slice AT NT KT,.slice AH NH KH] 31
  have B6:=Bx.new w5 31 [.int .i64 X.hz,.slice A0 N0 K0,.slice A1 N1 K1,.slice A2 N2 K2,.slice A3 N3 K3,.slice A4 N4 K4,.slice A5 N5 K5,.slice AP NP KP,.slice AD ND KD,.slice AR NR KR,.slice AT NT KT,.slice AH NH KH]
  obtain⟨w6,hw6⟩: ∃ q,w5.alloc (.cells #[.int .i64 X.hz,.slice A0 N0 K0,.slice A1 N1 K1,.slice A2 N2 K2,.slice A3 N3 K3,.slice A4 N4 K4,.slice A5 N5 K5,.slice AP NP KP,.slice AD ND KD,.slice AR NR KR,.slice AT NT KT,.slice AH NH KH] 31)=q:=⟨_,rfl⟩
  change Bx (w5.alloc (.cells #[.int .i64 X.hz,.slice A0 N0 K0,.slice A1 N1 K1,.slice A2 N2 K2,.slice A3 N3 K3,.slice A4 N4 K4,.slice A5 N5 K5,.slice AP NP KP,.slice AD ND KD,.slice AR NR KR,.slice AT NT KT,.slice AH NH KH] 31)) _ _ _ at B6
  rw [hw6] at hb6 B6
  obtain⟨b6,hb6E⟩: ∃ q,w5.heap.size=q:=⟨_,rfl⟩
  rw [hb6E] at B6
  have hRW6:=hRW.below hb6
  have hup6:Hid (Below we.heap.size we w6):=(b_ hup4 hb5).trans (hb6.mono (b_ hup4 hb5).size)
  have hw36:Hid (Below w3.heap.size w3 w6):=((b_ hb4H hb5).trans (hb6.mono (b_ hb4H hb5).size))
  have hRWH:=Lib.hid hRW6
  obtain⟨q0,q1,q2,q3,q4,q5,q6,q7,q8,q9,q10,q11⟩:=c_12 B6
  have hb86n0:b6<w6.heap.size:=B6.lt
  have B6:=Lib.hid B6
  clear hRW hRW6 hb5 hb6
  have hN5:Hid (N0≤100000∧N1≤100000∧N2≤100000∧N3≤100000∧N4≤100000∧N5≤100000):=by
   have h:=few_num hfl.out
   have:=hRWH.out.r0.len;have:=hRWH.out.r1.len;have:=hRWH.out.r2.len;have:=hRWH.out.r3.len;have:=hRWH.out.r4.len;have:=hRWH.out.r5.len
   have:=h.s0;have:=h.s1;have:=h.s2;have:=h.s3;have:=h.s4;have:=h.s5
   simp only at*
   show _∧_
   omega
  go_wp2_with fail
  refine(twice_any [(numS X).stops,(numS X).nPaths,(numS X).nDoors,(numS X).nRoutes,(numS X).nTrips,(numS X).nHazs] _ _ _ _ _ _ rfl A0 A1 A2 A3 A4 A5 N0 N1 N2 N3 N4 N5 K0 K1 K2 K3 K4 K5 w6 hRWH.out.r0 hRWH.out.r1 hRWH.out.r2 hRWH.out.r3 hRWH.out.r4 hRWH.out.r5 hN5.out.1 hN5.out.2.1 hN5.out.2.2.1 hN5.out.2.2.2.1 hN5.out.2.2.2.2.1 hN5.out.2.2.2.2.2).mono ?_;rintro e w7 ⟨c,k,a,rfl,hc,hb7⟩
  rw [←allN_flat] at hc
  have hcu:=Lib.hid hc
  clear hw6 hb6E q0 q1 q2 q3 q4 q5 q6 q7 q8 q9 q10 q11
  have hb8:=below_alloc w7 #[.int .i64 c,.int .i64 k,.int .i64 a] 81
  have B8:=Bx.new w7 81 [.int .i64 c,.int .i64 k,.int .i64 a]
  obtain⟨w8,hw8⟩: ∃ q,w7.alloc (.cells #[.int .i64 c,.int .i64 k,.int .i64 a] 81)=q:=⟨_,rfl⟩
  change Bx (w7.alloc (.cells #[.int .i64 c,.int .i64 k,.int .i64 a] 81)) _ _ _ at B8
  rw [hw8] at hb8 B8
  obtain⟨b8,hb8E⟩: ∃ q,w7.heap.size=q:=⟨_,rfl⟩
  rw [hb8E] at B8
  have hb68:=u_ hb7 hb8
  have hup8:Hid (Below we.heap.size we w8):=b_ hup6 hb68
  have hw38:Hid (Below w3.heap.size w3 w8):=b_ hw36 hb68
  have B68:=B6.out.below hb68
  have hRW8:=Lib.hid (hRWH.out.below hb68)
  have r0:=B8.cell 0 rfl
  have hb86n:Hid (b6≠b8):=by have:=B68.lt;have:=hb7.size;show _≠_;omega
  have hb86:Hid (w3.heap.size≤b8):=by have:=hw36.out.size;have:=hb7.size;show _≤_;omega
  obtain⟨d0,d1,d2,d3,d4,d5,d6,d7,d8,d9,d10,d11⟩:=c_12 B68
  have B8:=Lib.hid B8
  have B68:=Lib.hid B68
  clear hc hb7 hb8 hb68 hRWH B6 hup6 hw36
  by_cases hc0:c=0
  ·subst hc0
   have huB:Hid (uniqB (allN (numS X))=true):=hcu.out.1 rfl
   go_wp2_with fail
   refine(first9_any (numS X) ⟨A0,A1,A2,A3,A4,A5,AP,AD,AR,AT,AH,N0,N1,N2,N3,N4,N5,NP,ND,NR,NT,NH,K0,K1,K2,K3,K4,K5,KP,KD,KR,KT,KH⟩ w8 hRW8.out (few_num hfl.out) (rshape_rides hsB.out)).mono ?_;rintro e w9 ⟨c,k,a,rfl,hc,hb9⟩
   have hcf:=Lib.hid hc
   have B8':=B8.out.below hb9
   have B69:=B68.out.below hb9
   have hup9a:=b_ hup8 hb9
   have hw39:=b_ hw38 hb9
   obtain⟨hBa,hba⟩:=B8'.row [.int .i64 c,.int .i64 k,.int .i64 a]
   obtain⟨w10,hw10⟩: ∃ q,w9.setRow b8 (List.toArray [.int .i64 c,.int .i64 k,.int .i64 a])=q:=⟨_,rfl⟩
   rw [hw10] at hBa hba
   have hw310:=hw39.trans (hba.below hw39.size (fun x hx=>by simp only [List.mem_singleton] at hx;subst hx;exact hb86.out))
   have hup9:Hid (Below we.heap.size we w10):=b_ hup hw310
   have B610:Bx w10 b6 31 [.int .i64 X.hz,.slice A0 N0 K0,.slice A1 N1 K1,.slice A2 N2 K2,.slice A3 N3 K3,.slice A4 N4 K4,.slice A5 N5 K5,.slice AP NP KP,.slice AD ND KD,.slice AR NR KR,.slice AT NT KT,.slice AH NH KH]:=B69.keep (hba.keep b6 B69.lt (by simp;exact hb86n.out))
   have r0:=hBa.cell 0 rfl
   have hBq:=BQ.out.below hw310
   have hBw:=BW.out.below hw310
   have hup9aH:=Lib.hid hup9a
   have hBaH:=Lib.hid hBa
   have B610H:=Lib.hid B610
   clear d0 d1 d2 d3 d4 d5 d6 d7 d8 d9 d10 d11 hc hb9 hw8 hb8E hup9a hw39 hba hw310 hup8 hw38 B69 hRW8 B68 B8 r0
   have r0:=hBaH.out.cell 0 rfl
   by_cases hcc:c=0
   ·subst hcc
    have hyes:Hid (okS X=true):=by show _=_;unfold okS;rw [hsB.out,huB.out,hcf.out.1 rfl];rfl
    go_upto_region 8 with(with_reducible refine wpList_store_bx (.tmp 6) (.tmp 23) 81 (by with_reducible rfl) ?u1 ?u2 ?u3 B8' ?u4 ?u5 ?u6 hw10 ?_)
    all_goals try rfl
    all_goals try kernel_rfl
    obtain⟨d0,d1,d2,d3,d4,d5,d6,d7,d8,d9,d10,d11⟩:=c_12 B610H.out
    obtain⟨hQ1,hq1⟩:=hBq.row [.int .i64 X.hz,.slice A0 N0 K0,.slice A1 N1 K1,.slice A2 N2 K2,.slice A3 N3 K3,.slice A4 N4 K4,.slice A5 N5 K5,.slice AP NP KP,.slice AD ND KD,.slice AR NR KR,.slice AT NT KT,.slice AH NH KH]
    obtain⟨wf,hwf⟩: ∃ q,w10.setRow bq (List.toArray [.int .i64 X.hz,.slice A0 N0 K0,.slice A1 N1 K1,.slice A2 N2 K2,.slice A3 N3 K3,.slice A4 N4 K4,.slice A5 N5 K5,.slice AP NP KP,.slice AD ND KD,.slice AR NR KR,.slice AT NT KT,.slice AH NH KH])=q:=⟨_,rfl⟩
    rw [hwf] at hQ1 hq1
    have hW1:Bx wf bw 81 [.int .i64 0,.int .i64 0,.int .i64 0]:=hBw.keep (hq1.keep bw hBw.lt (by simp;exact hbwq.out))
    obtain⟨hW2,hq2⟩:=hW1.row [.int .i64 0,.int .i64 0,.int .i64 0]
    obtain⟨wg,hwg⟩: ∃ q,wf.setRow bw (List.toArray [.int .i64 0,.int .i64 0,.int .i64 0])=q:=⟨_,rfl⟩
    rw [hwg] at hW2 hq2
    have hQ2:Bx wg bq 31 [.int .i64 X.hz,.slice A0 N0 K0,.slice A1 N1 K1,.slice A2 N2 K2,.slice A3 N3 K3,.slice A4 N4 K4,.slice A5 N5 K5,.slice AP NP KP,.slice AD ND KD,.slice AR NR KR,.slice AT NT KT,.slice AH NH KH]:=hQ1.keep (hq2.keep bq hQ1.lt (by simp;exact fun h=>hbwq.out h.symm))
    have hF1:=hq1.below hup9.out.size (fun x hx=>by simp only [List.mem_singleton] at hx;subst hx;exact hbeq.out)
    have hF2:=hq2.below (hup9.out.trans hF1).size (fun x hx=>by simp only [List.mem_singleton] at hx;subst hx;exact hbew.out)
    have hfin:Hid (Below we.heap.size we wg):=(hup9.out.trans hF1).trans hF2
    have hQ2:=Lib.hid hQ2
    have hW2:=Lib.hid hW2
    have hBqz:=hBq
    clear hQ1 hq1 hq2 hF1 hF2
    rename_i gQ gW
    clear gQ gW
    go_wp2_with (first|(with_reducible refine wpList_store_bx (.tmp 2) (.tmp 29) 31 (by with_reducible rfl) ?y1 ?y2 ?y3 hBqz ?y4 ?y5 ?y6 hwf ?_)|(with_reducible refine wpList_store_bx (.tmp 3) (.tmp 30) 81 (by with_reducible rfl) ?y7 ?y8 ?y9 hW1 ?ya ?yb ?yc hwg ?_))
    all_goals try rfl
    all_goals try kernel_rfl
    refine bodyPost_bx2 (s:=2) (s':=3) (t:=31) (t':=81) rfl rfl rfl hQ2.out hW2.out (by kernel_rfl) (by kernel_rfl) (by kernel_rfl) (by kernel_rfl) rfl ?_
    exact⟨_,_,_,_,rfl,by simp,by simp [Value.oneCell'],⟨fun _=>hyes.out,fun _=>rfl⟩,hfin.out⟩
   ·have hne:(c !=0)=true:=by simp [hcc]
    go_upto_region 8 with(with_reducible refine wpList_store_bx (.tmp 6) (.tmp 23) 81 (by with_reducible rfl) ?v1 ?v2 ?v3 B8' ?v4 ?v5 ?v6 hw10 ?_)
    all_goals try rfl
    all_goals try kernel_rfl
    have hno:Hid (okS X=false):=by show _=_;unfold okS;rw [hsB.out,huB.out];simp only [Bool.true_and];exact Bool.eq_false_iff.2 fun h=>hcc (hcf.out.2 h)
    obtain⟨r0,r1,r2⟩:=c_3 hBaH.out
    have hb8l:=hBaH.out.lt
    have hgg:bq≠bw:=fun h=>hbwq.out h.symm
    have hb8q:b8≠bq:=by have:=BQ.out.lt;have:=hb86.out;omega
    have hb8w:b8≠bw:=by have:=BW.out.lt;have:=hb86.out;omega
    go_upto_region 9 with fail
    refine wp_region_ghost (fun fl x w=>GX2 w10 bq 31 [.int .i64 0,.slice none 0 0,.slice none 0 0,.slice none 0 0,.slice none 0 0,.slice none 0 0,.slice none 0 0,.slice none 0 0,.slice none 0 0,.slice none 0 0,.slice none 0 0,.slice none 0 0] [.int .i64 0,.slice none 0 0,.slice none 0 0,.slice none 0 0,.slice none 0 0,.slice none 0 0,.slice none 0 0,.slice none 0 0,.slice none 0 0,.slice none 0 0,.slice none 0 0,.slice none 0 0] bw 81 [.int .i64 0,.int .i64 0,.int .i64 0] [.int .i64 c,.int .i64 k,.int .i64 a] (fl 2) (fl 3) w) (by kernel_rfl) (by kernel_rfl) (by kernel_rfl) (by kernel_rfl) (by kernel_rfl) ?_ ?_
    ·intro x0
     exact GX2.start hBq hBw rfl rfl
    intro base O hbase hO
    have kx1:Hid (∀ xs,evX base O xs (.tmp 2)= .pointer (some ⟨bq,0,none⟩)∧evX base O xs (.tmp 3)= .pointer (some ⟨bw,0,none⟩)∧evX base O xs (.tmp 6)= .pointer (some ⟨b8,0,none⟩)∧evX base O xs (.tmp 27)=xs 0∧evX base O xs (.tmp 28)=xs 1):=fun xs=>by rw [hbase,hO];exact⟨rfl,rfl,rfl,rfl,rfl⟩
    clear hbase hO
    apply gh_det (n:=0)
    ·intro fl xs w ev hG hD hl hdone hev K hK
     rw [if_pos (wantedX_none rfl)]
     have ef: ∀ f,ev (.func f)= .func (.func f) #[] #[]:=fun f=>(hev _).trans rfl
     clear hev hD
     go_simp
     exact hK _ _ rfl hG
    apply gh_det (n:=1)
    ·intro fl xs w ev hG hD hl hdone hev K hK
     have e6:=(hev (.tmp 6)).trans ((kx1.out xs).2.2.1)
     rw [if_pos (wantedX_none rfl)]
     have ef: ∀ f,ev (.func f)= .func (.func f) #[] #[]:=fun f=>(hev _).trans rfl
     clear hev hD
     have m0:=hG.cell (b:=b8) hb8l hb8q hb8w (r0)
     have m1:=hG.cell (b:=b8) hb8l hb8q hb8w (r1)
     have m2:=hG.cell (b:=b8) hb8l hb8q hb8w (r2)
     go_simp
     exact hK _ _ rfl hG
    refine gh_any (n:=2) (fun _=>True) ?_ ?_
    ·intro fl xs w ev hG hD hl hdone hev K hK
     have e2:=(hev (.tmp 2)).trans ((kx1.out xs).1)
     have e27:=(hev (.tmp 27)).trans ((kx1.out xs).2.2.2.1)
     have d0:=hD.at_ 0 rfl rfl
     replace e27:=e27.trans d0
     rw [if_pos (wantedX_none rfl)]
     have ef: ∀ f,ev (.func f)= .func (.func f) #[] #[]:=fun f=>(hev _).trans rfl
     clear hev hD
     exact outcome_store (.tmp 2) (.tmp 27) 31 rfl e2 e27 (hG.box0 hl) (by kernel_rfl) rfl (by simp [Value.oneCell']) (fun w' hB hBut=>hK _ _ trivial (hG.put0 hgg hB hBut))
    refine gh_any (n:=3) (fun _=>True) ?_ ?_
    ·intro fl xs w ev hG hD hl hdone hev K hK
     have e3:=(hev (.tmp 3)).trans ((kx1.out xs).2.1)
     have e28:=(hev (.tmp 28)).trans ((kx1.out xs).2.2.2.2)
     have d1:=hD.at_ 1 rfl rfl
     replace e28:=e28.trans d1
     rw [if_pos (wantedX_none rfl)]
     have ef: ∀ f,ev (.func f)= .func (.func f) #[] #[]:=fun f=>(hev _).trans rfl
     clear hev hD
     exact outcome_store (.tmp 3) (.tmp 28) 81 rfl e3 e28 (hG.box1 hl) (by kernel_rfl) rfl (by simp [Value.oneCell']) (fun w' hB hBut=>hK _ _ trivial (hG.put1 hgg hB hBut))
    clear kx1
    intro xs wb hG hI
    clear hI
    have hbutb:=hG.but
    have hbxb:=hG.bx
    have hbxb':=hG.bx'
    clear hG
    simp only [if_true] at hbxb hbxb'
    simp only [List.append_eq,List.cons_append,List.nil_append,setAll,List.setIfInBounds_toArray,List.set_cons_zero,List.set_cons_succ,Nat.zero_add,Nat.reduceAdd]
    have hfin:Hid (Below we.heap.size we wb):=hup9.out.trans (hbutb.below hup9.out.size (fun x hx=>by simp only [List.mem_cons,List.not_mem_nil,or_false] at hx;rcases hx with rfl|rfl;exact hbeq.out;exact hbew.out))
    clear hbutb
    go_wp2_with fail
    refine bodyPost_bx2 (s:=2) (s':=3) (t:=31) (t':=81) rfl rfl rfl hbxb hbxb' (by kernel_rfl) (by kernel_rfl) (by kernel_rfl) (by kernel_rfl) rfl ?_
    exact⟨_,_,_,_,rfl,by simp,by simp [Value.oneCell'],⟨fun h=>absurd h hcc,fun h=>by rw [hno.out] at h;cases h⟩,hfin.out⟩
  ·have hne:(c !=0)=true:=by simp [hc0]
   have hne2:(c==0)=false:=by simp [hc0]
   have hBq:=BQ.out.below hw38.out
   have hBw:=BW.out.below hw38.out
   go_wp2_with fail
   have hno:Hid (okS X=false):=by show _=_;unfold okS;rw [hsB.out];simp only [Bool.true_and,Bool.and_eq_false_iff];exact .inl (Bool.eq_false_iff.2 fun h=>hc0 (hcu.out.2 h))
   obtain⟨r0,r1,r2⟩:=c_3 B8.out
   have hb8l:=B8.out.lt
   have hgg:bq≠bw:=fun h=>hbwq.out h.symm
   have hb8q:b8≠bq:=by have:=BQ.out.lt;have:=hb86.out;omega
   have hb8w:b8≠bw:=by have:=BW.out.lt;have:=hb86.out;omega
   go_upto_region 9 with fail
   refine wp_region_ghost (fun fl x w=>GX2 w8 bq 31 [.int .i64 0,.slice none 0 0,.slice none 0 0,.slice none 0 0,.slice none 0 0,.slice none 0 0,.slice none 0 0,.slice none 0 0,.slice none 0 0,.slice none 0 0,.slice none 0 0,.slice none 0 0] [.int .i64 0,.slice none 0 0,.slice none 0 0,.slice none 0 0,.slice none 0 0,.slice none 0 0,.slice none 0 0,.slice none 0 0,.slice none 0 0,.slice none 0 0,.slice none 0 0,.slice none 0 0] bw 81 [.int .i64 0,.int .i64 0,.int .i64 0] [.int .i64 c,.int .i64 k,.int .i64 a] (fl 2) (fl 3) w) (by kernel_rfl) (by kernel_rfl) (by kernel_rfl) (by kernel_rfl) (by kernel_rfl) ?_ ?_
   ·intro x0
    exact GX2.start hBq hBw rfl rfl
   intro base O hbase hO
   have kx1:Hid (∀ xs,evX base O xs (.tmp 2)= .pointer (some ⟨bq,0,none⟩)∧evX base O xs (.tmp 3)= .pointer (some ⟨bw,0,none⟩)∧evX base O xs (.tmp 6)= .pointer (some ⟨b8,0,none⟩)∧evX base O xs (.tmp 27)=xs 0∧evX base O xs (.tmp 28)=xs 1):=fun xs=>by rw [hbase,hO];exact⟨rfl,rfl,rfl,rfl,rfl⟩
   clear hbase hO
   apply gh_det (n:=0)
   ·intro fl xs w ev hG hD hl hdone hev K hK
    rw [if_pos (wantedX_none rfl)]
    have ef: ∀ f,ev (.func f)= .func (.func f) #[] #[]:=fun f=>(hev _).trans rfl
    clear hev hD
    go_simp
    exact hK _ _ rfl hG
   apply gh_det (n:=1)
   ·intro fl xs w ev hG hD hl hdone hev K hK
    have e6:=(hev (.tmp 6)).trans ((kx1.out xs).2.2.1)
    rw [if_pos (wantedX_none rfl)]
    have ef: ∀ f,ev (.func f)= .func (.func f) #[] #[]:=fun f=>(hev _).trans rfl
    clear hev hD
    have m0:=hG.cell (b:=b8) hb8l hb8q hb8w (r0)
    have m1:=hG.cell (b:=b8) hb8l hb8q hb8w (r1)
    have m2:=hG.cell (b:=b8) hb8l hb8q hb8w (r2)
    go_simp
    exact hK _ _ rfl hG
   refine gh_any (n:=2) (fun _=>True) ?_ ?_
   ·intro fl xs w ev hG hD hl hdone hev K hK
    have e2:=(hev (.tmp 2)).trans ((kx1.out xs).1)
    have e27:=(hev (.tmp 27)).trans ((kx1.out xs).2.2.2.1)
    have d0:=hD.at_ 0 rfl rfl
    replace e27:=e27.trans d0
    rw [if_pos (wantedX_none rfl)]
    have ef: ∀ f,ev (.func f)= .func (.func f) #[] #[]:=fun f=>(hev _).trans rfl
    clear hev hD
    exact outcome_store (.tmp 2) (.tmp 27) 31 rfl e2 e27 (hG.box0 hl) (by kernel_rfl) rfl (by simp [Value.oneCell']) (fun w' hB hBut=>hK _ _ trivial (hG.put0 hgg hB hBut))
   refine gh_any (n:=3) (fun _=>True) ?_ ?_
   ·intro fl xs w ev hG hD hl hdone hev K hK
    have e3:=(hev (.tmp 3)).trans ((kx1.out xs).2.1)
    have e28:=(hev (.tmp 28)).trans ((kx1.out xs).2.2.2.2)
    have d1:=hD.at_ 1 rfl rfl
    replace e28:=e28.trans d1
    rw [if_pos (wantedX_none rfl)]
    have ef: ∀ f,ev (.func f)= .func (.func f) #[] #[]:=fun f=>(hev _).trans rfl
    clear hev hD
    exact outcome_store (.tmp 3) (.tmp 28) 81 rfl e3 e28 (hG.box1 hl) (by kernel_rfl) rfl (by simp [Value.oneCell']) (fun w' hB hBut=>hK _ _ trivial (hG.put1 hgg hB hBut))
   clear kx1
   intro xs wb hG hI
   clear hI
   have hbutb:=hG.but
   have hbxb:=hG.bx
   have hbxb':=hG.bx'
   clear hG
   simp only [if_true] at hbxb hbxb'
   simp only [List.append_eq,List.cons_append,List.nil_append,setAll,List.setIfInBounds_toArray,List.set_cons_zero,List.set_cons_succ,Nat.zero_add,Nat.reduceAdd]
   have hfin:Hid (Below we.heap.size we wb):=hup8.out.trans (hbutb.below hup8.out.size (fun x hx=>by simp only [List.mem_cons,List.not_mem_nil,or_false] at hx;rcases hx with rfl|rfl;exact hbeq.out;exact hbew.out))
   clear hbutb
   go_wp2_with fail
   refine bodyPost_bx2 (s:=2) (s':=3) (t:=31) (t':=81) rfl rfl rfl hbxb hbxb' (by kernel_rfl) (by kernel_rfl) (by kernel_rfl) (by kernel_rfl) rfl ?_
   exact⟨_,_,_,_,rfl,by simp,by simp [Value.oneCell'],⟨fun h=>absurd h hc0,fun h=>by rw [hno.out] at h;cases h⟩,hfin.out⟩
 ·have hne:(c !=0)=true:=by simp [he]
  have hno:Hid (okS X=false):=by
   show _=_
   cases h:sheetB nameB X with
   |true=>exact absurd (hcH.out.2 h) he
   |false=>unfold okS;rw [h];rfl
  have hb4H:=Lib.hid hb4
  clear hb4
  go_wp2_with fail
  refine(wrong_any c 0 0 w4).mono ?_;rintro e w5 ⟨rfl,hb5⟩
  have hup9:Hid (Below we.heap.size we w5):=b_ hup4 hb5
  have hBq:=(BQ.out.below hb4H.out).below hb5
  have hBw:=(BW.out.below hb4H.out).below hb5
  clear hb5
  obtain⟨hQ1,hq1⟩:=hBq.row [.int .i64 0,.slice none 0 0,.slice none 0 0,.slice none 0 0,.slice none 0 0,.slice none 0 0,.slice none 0 0,.slice none 0 0,.slice none 0 0,.slice none 0 0,.slice none 0 0,.slice none 0 0]
  obtain⟨wf,hwf⟩: ∃ q,w5.setRow bq (List.toArray [.int .i64 0,.slice none 0 0,.slice none 0 0,.slice none 0 0,.slice none 0 0,.slice none 0 0,.slice none 0 0,.slice none 0 0,.slice none 0 0,.slice none 0 0,.slice none 0 0,.slice none 0 0])=q:=⟨_,rfl⟩
  rw [hwf] at hQ1 hq1
  have hW1:Bx wf bw 81 [.int .i64 0,.int .i64 0,.int .i64 0]:=hBw.keep (hq1.keep bw hBw.lt (by simp;exact hbwq.out))
  obtain⟨hW2,hq2⟩:=hW1.row [.int .i64 c,.int .i64 0,.int .i64 0]
  obtain⟨wg,hwg⟩: ∃ q,wf.setRow bw (List.toArray [.int .i64 c,.int .i64 0,.int .i64 0])=q:=⟨_,rfl⟩
  rw [hwg] at hW2 hq2
  have hQ2:Bx wg bq 31 [.int .i64 0,.slice none 0 0,.slice none 0 0,.slice none 0 0,.slice none 0 0,.slice none 0 0,.slice none 0 0,.slice none 0 0,.slice none 0 0,.slice none 0 0,.slice none 0 0,.slice none 0 0]:=hQ1.keep (hq2.keep bq hQ1.lt (by simp;exact fun h=>hbwq.out h.symm))
  have hF1:=hq1.below hup9.out.size (fun x hx=>by simp only [List.mem_singleton] at hx;subst hx;exact hbeq.out)
  have hF2:=hq2.below (hup9.out.trans hF1).size (fun x hx=>by simp only [List.mem_singleton] at hx;subst hx;exact hbew.out)
  have hfin:Hid (Below we.heap.size we wg):=(hup9.out.trans hF1).trans hF2
  have hQ2:=Lib.hid hQ2
  have hW2:=Lib.hid hW2
  have hBqz:=hBq
  clear hQ1 hq1 hq2 hF1 hF2
  rename_i gQ gW
  clear gQ gW
  go_wp2_with (first|(with_reducible refine wpList_store_bx (.tmp 2) (.tmp 11) 31 (by with_reducible rfl) ?n1 ?n2 ?n3 hBqz ?n4 ?n5 ?n6 hwf ?_)|(with_reducible refine wpList_store_bx (.tmp 3) (.tmp 13) 81 (by with_reducible rfl) ?n7 ?n8 ?n9 hW1 ?na ?nb ?nc hwg ?_))
  all_goals try rfl
  all_goals try kernel_rfl
  refine bodyPost_bx2 (s:=2) (s':=3) (t:=31) (t':=81) rfl rfl rfl hQ2.out hW2.out (by kernel_rfl) (by kernel_rfl) (by kernel_rfl) (by kernel_rfl) rfl ?_
  exact⟨_,_,_,_,rfl,by simp,by simp [Value.oneCell'],⟨fun h=>absurd h he,fun h=>by rw [hno.out] at h;cases h⟩,hfin.out⟩
set_option maxRecDepth 100000 in
theorem check9_any (M:WorldP) (V:WV) (we:World) (hr:RW we M V) (hf:Few M):Calls Tryz.prog 77 #[wVal M V] we (RetW we (goodB nameB M)):=by
 have hRV:=Lib.hid hr
 have hwh:=Lib.hid (fun w1 hR=>whole_any M V w1 hR hf)
 have htl:=Lib.hid (fun w1 hR hw=>told_any M V w1 hR hf hw)
 have hmk:=Lib.hid (fun(V':SV) w1 hR=>make9_any (toldS M) V' w1 hR (few_told hf))
 clear hf
 obtain⟨a0,a1,a2,a3,a4,a5,aP,aD,aR,aT,aH,n0,n1,n2,n3,n4,n5,nP,nD,nR,nT,nH,c0,c1,c2,c3,c4,c5,cP,cD,cR,cT,cH⟩:=V
 simp only [wVal] at*
 have hb1:=below_alloc we #[.int .i64 M.hz,.slice a0 n0 c0,.slice a1 n1 c1,.slice a2 n2 c2,.slice a3 n3 c3,.slice a4 n4 c4,.slice a5 n5 c5,.slice aP nP cP,.slice aD nD cD,.slice aR nR cR,.slice aT nT cT,.slice aH nH cH] 31
 have B1:=Bx.new we 31 [.int .i64 M.hz,.slice a0 n0 c0,.slice a1 n1 c1,.slice a2 n2 c2,.slice a3 n3 c3,.slice a4 n4 c4,.slice a5 n5 c5,.slice aP nP cP,.slice aD nD cD,.slice aR nR cR,.slice aT nT cT,.slice aH nH cH]
 obtain⟨w1,hw1⟩: ∃ q,we.alloc (.cells #[.int .i64 M.hz,.slice a0 n0 c0,.slice a1 n1 c1,.slice a2 n2 c2,.slice a3 n3 c3,.slice a4 n4 c4,.slice a5 n5 c5,.slice aP nP cP,.slice aD nD cD,.slice aR nR cR,.slice aT nT cT,.slice aH nH cH] 31)=q:=⟨_,rfl⟩
 change Bx (we.alloc (.cells #[.int .i64 M.hz,.slice a0 n0 c0,.slice a1 n1 c1,.slice a2 n2 c2,.slice a3 n3 c3,.slice a4 n4 c4,.slice a5 n5 c5,.slice aP nP cP,.slice aD nD cD,.slice aR nR cR,.slice aT nT cT,.slice aH nH cH] 31)) _ _ _ at B1
 rw [hw1] at hb1 B1
 have hb2:=below_alloc w1 #[.int .i64 0,.int .i64 0,.int .i64 0] 81
 have B2:=Bx.new w1 81 [.int .i64 0,.int .i64 0,.int .i64 0]
 obtain⟨w2,hw2⟩: ∃ q,w1.alloc (.cells #[.int .i64 0,.int .i64 0,.int .i64 0] 81)=q:=⟨_,rfl⟩
 change Bx (w1.alloc (.cells #[.int .i64 0,.int .i64 0,.int .i64 0] 81)) _ _ _ at B2
 rw [hw2] at hb2 B2
 obtain⟨bn,hbn⟩: ∃ q,we.heap.size=q:=⟨_,rfl⟩
 obtain⟨bw,hq1⟩: ∃ q,bn+1=q:=⟨_,rfl⟩
 have hbwE:w1.heap.size=bw:=by rw [←hq1,←hbn,←hw1];simp
 rw [hbn] at B1
 rw [hbwE] at B2
 have hup:Hid (Below we.heap.size we w2):=u_ hb1 hb2
 have hbew:Hid (we.heap.size≤bw):=by show _≤_;omega
 have B1':=B1.below hb2
 have BW:=Lib.hid B2
 have hR:=Lib.hid (hRV.out.below hup.out)
 obtain⟨p0,p1,p2,p3,p4,p5,p6,p7,p8,p9,p10,p11⟩:=c_12 B1'
 have B1:=Lib.hid B1'
 rename_i g1
 clear g1 B1' B2 hb1 hb2 hr hRV
 go_enter Tryz.func77,Tryz.ntmps77
 go_wp2_with fail
 refine(hwh.out w2 hR.out).mono ?_;rintro e w3 ⟨rfl,hb3⟩
 have hup3:Hid (Below we.heap.size we w3):=b_ hup hb3
 have hb3H:=Lib.hid hb3
 obtain⟨r0,r1,r2,r3,r4,r5,r6,r7,r8,r9,r10,r11⟩:=c_12 (B1.out.below hb3)
 clear hw1 hw2 hbn hq1 hbwE hb3 hwh p0 p1 p2 p3 p4 p5 p6 p7 p8 p9 p10 p11
 cases hwB:wholeB M with
 |false=>
  have hno:Hid (goodB nameB M=false):=by show _=_;rw [goodB_eq,hwB];rfl
  clear hwB
  go_wp2_with fail
  refine(wrong_any 2 0 0 w3).mono ?_;rintro e w4 ⟨rfl,hb4⟩
  have hBw:=(BW.out.below hb3H.out).below hb4
  obtain⟨hBF,hbF⟩:=hBw.row [.int .i64 2,.int .i64 0,.int .i64 0]
  obtain⟨wF,hwF⟩: ∃ q,w4.setRow bw (List.toArray [.int .i64 2,.int .i64 0,.int .i64 0])=q:=⟨_,rfl⟩
  rw [hwF] at hBF hbF
  have h39:=b_ hup3 hb4
  have hfin:Hid (Below we.heap.size we wF):=h39.trans (hbF.below h39.size (fun x hx=>by simp only [List.mem_singleton] at hx;subst hx;exact hbew.out))
  have hBF:=Lib.hid hBF
  rename_i g1X
  clear g1X hbF h39 hb4
  go_wp2_with (with_reducible refine wpList_store_bx (.tmp 2) (.tmp 8) 81 (by with_reducible rfl) ?x1 ?x2 ?x3 hBw ?x4 ?x5 ?x6 hwF ?_)
  all_goals try rfl
  all_goals try kernel_rfl
  refine bodyPost_bx (s:=2) (t:=81) rfl rfl hBF.out (by kernel_rfl) (by kernel_rfl) rfl ?_
  exact⟨_,_,_,rfl,⟨fun h=>absurd h (by decide),fun h=>by rw [hno.out] at h;cases h⟩,hfin.out⟩
 |true=>
  have hwt:=Lib.hid hwB
  clear hwB
  go_wp2_with fail
  refine(htl.out w3 (hR.out.below hb3H.out) hwt.out).mono ?_;rintro e w4 ⟨V',rfl,hRS,hb4⟩
  clear r0 r1 r2 r3 r4 r5 r6 r7 r8 r9 r10 r11
  go_wp2_with fail
  refine(hmk.out V' w4 hRS).mono ?_;rintro e w5 ⟨vs,c,k,a,rfl,hl,hone,hc,hb5⟩
  obtain⟨v0,v1,v2,v3,v4,v5,v6,v7,v8,v9,va,vb,rfl⟩:=len12 hl
  have hcc:Hid (c=0↔goodB nameB M=true):=by show _↔_;rw [goodB_eq,hwt.out,Bool.true_and];exact hc
  have hup5:Hid (Below we.heap.size we w5):=(b_ hup3 hb4).trans (hb5.mono (b_ hup3 hb4).size)
  have hw25:=(b_ hb3H hb4).trans (hb5.mono (b_ hb3H hb4).size)
  have hBw5:=BW.out.below hw25
  clear hc hb4 hb5 hRS htl hmk
  have hb6:=below_alloc w5 #[.int .i64 0,.slice none 0 0,.slice none 0 0,.slice none 0 0,.slice none 0 0,.slice none 0 0,.slice none 0 0,.slice none 0 0,.slice none 0 0,.slice none 0 0,.slice none 0 0,.slice none 0 0] 31
  have B6:=Bx.new w5 31 [.int .i64 0,.slice none 0 0,.slice none 0 0,.slice none 0 0,.slice none 0 0,.slice none 0 0,.slice none 0 0,.slice none 0 0,.slice none 0 0,.slice none 0 0,.slice none 0 0,.slice none 0 0]
  obtain⟨w6,hw6⟩: ∃ q,w5.alloc (.cells #[.int .i64 0,.slice none 0 0,.slice none 0 0,.slice none 0 0,.slice none 0 0,.slice none 0 0,.slice none 0 0,.slice none 0 0,.slice none 0 0,.slice none 0 0,.slice none 0 0,.slice none 0 0] 31)=q:=⟨_,rfl⟩
  change Bx (w5.alloc (.cells #[.int .i64 0,.slice none 0 0,.slice none 0 0,.slice none 0 0,.slice none 0 0,.slice none 0 0,.slice none 0 0,.slice none 0 0,.slice none 0 0,.slice none 0 0,.slice none 0 0,.slice none 0 0] 31)) _ _ _ at B6
  rw [hw6] at hb6 B6
  have hb7:=below_alloc w6 #[.int .i64 0,.int .i64 0,.int .i64 0] 81
  have B7:=Bx.new w6 81 [.int .i64 0,.int .i64 0,.int .i64 0]
  obtain⟨w7,hw7⟩: ∃ q,w6.alloc (.cells #[.int .i64 0,.int .i64 0,.int .i64 0] 81)=q:=⟨_,rfl⟩
  change Bx (w6.alloc (.cells #[.int .i64 0,.int .i64 0,.int .i64 0] 81)) _ _ _ at B7
  rw [hw7] at hb7 B7
  obtain⟨b6,hb6E⟩: ∃ q,w5.heap.size=q:=⟨_,rfl⟩
  obtain⟨b7,hb7E⟩: ∃ q,b6+1=q:=⟨_,rfl⟩
  have hb7E':w6.heap.size=b7:=by rw [←hb7E,←hb6E,←hw6];simp
  rw [hb6E] at B6
  rw [hb7E'] at B7
  have B67:=B6.below hb7
  obtain⟨B8,hq8⟩:=B67.row [v0,v1,v2,v3,v4,v5,v6,v7,v8,v9,va,vb]
  obtain⟨w8,hw8⟩: ∃ q,w7.setRow b6 (List.toArray [v0,v1,v2,v3,v4,v5,v6,v7,v8,v9,va,vb])=q:=⟨_,rfl⟩
  rw [hw8] at B8 hq8
  have B78:=B7.keep (hq8.keep b7 B7.lt (by simp;omega))
  obtain⟨B9,hq9⟩:=B78.row [.int .i64 c,.int .i64 k,.int .i64 a]
  obtain⟨w9,hw9⟩: ∃ q,w8.setRow b7 (List.toArray [.int .i64 c,.int .i64 k,.int .i64 a])=q:=⟨_,rfl⟩
  rw [hw9] at B9 hq9
  have hlt5:=hBw5.lt
  have hBw9:Bx w9 bw 81 [.int .i64 0,.int .i64 0,.int .i64 0]:=((hBw5.below hb6).below hb7).keep ((hq9.keep bw (((hBw5.below hb6).below hb7).keep (hq8.keep bw ((hBw5.below hb6).below hb7).lt (by simp;omega))).lt (by simp;omega)).trans (hq8.keep bw ((hBw5.below hb6).below hb7).lt (by simp;omega)))
  obtain⟨hBF,hbF⟩:=hBw9.row [.int .i64 c,.int .i64 k,.int .i64 a]
  obtain⟨wF,hwF⟩: ∃ q,w9.setRow bw (List.toArray [.int .i64 c,.int .i64 k,.int .i64 a])=q:=⟨_,rfl⟩
  rw [hwF] at hBF hbF
  have h7:=b_ hup5 (u_ hb6 hb7)
  have hge:we.heap.size≤b6:=by rw [←hb6E];exact hup5.out.size
  have h8:=h7.trans (hq8.below h7.size (fun x hx=>by simp only [List.mem_singleton] at hx;subst hx;exact hge))
  have h9:=h8.trans (hq9.below h8.size (fun x hx=>by simp only [List.mem_singleton] at hx;subst hx;omega))
  have hfin:Hid (Below we.heap.size we wF):=h9.trans (hbF.below h9.size (fun x hx=>by simp only [List.mem_singleton] at hx;subst hx;exact hbew.out))
  obtain⟨z0,z1,z2⟩:=c_3 B9
  have hBF:=Lib.hid hBF
  have honH:=Lib.hid hone
  clear hl hone hbF hlt5 hge h7 h8 h9 hq8 hq9 B9 hb6 hb7 B6 hBw5 hw25 B8 B7
  rename_i gF
  clear gF
  go_wp2_with (first|(with_reducible refine wpList_store_bx (.tmp 3) (.tmp 13) 31 (by with_reducible rfl) ?k1 ?k2 ?k3 B67 ?k4 ?k5 ?k6 hw8 ?_)|(with_reducible refine wpList_store_bx (.tmp 4) (.tmp 14) 81 (by with_reducible rfl) ?y1 ?y2 ?y3 B78 ?y4 ?y5 ?y6 hw9 ?_)|(with_reducible refine wpList_store_bx (.tmp 2) (.tmp 15) 81 (by with_reducible rfl) ?z1 ?z2 ?z3 hBw9 ?z4 ?z5 ?z6 hwF ?_))
  all_goals try(simp only [List.all_eq_true];exact honH.out)
  all_goals try rfl
  all_goals try kernel_rfl
  refine bodyPost_bx (s:=2) (t:=81) rfl rfl hBF.out (by kernel_rfl) (by kernel_rfl) rfl ?_
  exact⟨_,_,_,rfl,hcc.out,hfin.out⟩
end Go.Proofs.YtechdefolfboeaaGreatDoor
