/- Merged. -/
import Derived.Test.YtechdefolfboeaaGreatDoorPo20
import Derived.Test.YtechdefolfboeaaGreatDoorPo21
set_option linter.unusedVariables false
set_option linter.unusedSimpArgs false
set_option maxHeartbeats 4000000
namespace Go.Proofs.YtechdefolfboeaaGreatDoor
open Go.RowKit B K
theorem few_told {M:WorldP} (h:Few M):FewS (toldS M):=by
 have eP:=upTo2_len (f:=toldP M) (fun i hi=>toldP_some M hi) _ (Nat.le_refl _);have eD:=upTo2_len (f:=toldD M) (fun i hi=>toldD_some M hi) _ (Nat.le_refl _);have eR:=upTo2_len (f:=toldR M) (fun i hi=>toldR_some M hi) _ (Nat.le_refl _);have eT:=upTo2_len (f:=toldT M) (fun i hi=>toldT_some M hi) _ (Nat.le_refl _);have eH:=upTo2_len (f:=toldH M) (fun i hi=>toldH_some M hi) _ (Nat.le_refl _);refine⟨h.s0,by show(upTo2 _ _).length ≤_;rw [eP];exact h.sP,by show(upTo2 _ _).length ≤_;rw [eD];exact h.sD,by show(upTo2 _ _).length ≤_;rw [eR];exact h.sR,by show(upTo2 _ _).length ≤_;rw [eT];exact h.sT,by show(upTo2 _ _).length ≤_;rw [eH];exact h.sH,fun r hr=>?_⟩;obtain⟨k,hk,hq⟩:=List.mem_filterMap.1 (show r∈upTo2 (toldR M) M.routes.length from hr);have hk:=List.mem_range.1 hk;unfold toldR at hq;rw [List.getElem?_eq_getElem hk] at hq;cases hq;simpa using h.sr _ (List.getElem_mem hk)
theorem len12 {l:List Value} (h:l.length=12): ∃ v0 v1 v2 v3 v4 v5 v6 v7 v8 v9 va vb,l=[v0,v1,v2,v3,v4,v5,v6,v7,v8,v9,va,vb]:=by
 match l,h with
 |[v0,v1,v2,v3,v4,v5,v6,v7,v8,v9,va,vb],_=>exact⟨v0,v1,v2,v3,v4,v5,v6,v7,v8,v9,va,vb,rfl⟩
theorem goodB_eq (M:WorldP):goodB nameB M=(wholeB M&&okS (toldS M)):=rfl
set_option maxRecDepth 100000 in
theorem pcheck_any (M:WorldP) (V:WV) (we:World) (hr:RW we M V) (hf:Few M) (hsp:Sp we):Calls Tryz.prog 55 #[wVal M V] we (RetW we (goodB nameB M)):=by
 have hRV:=H_ hr;have hwh:=H_ (fun w1 hR=>pwhole_any M V w1 hR hf);have htl:=H_ (fun w1 hR hw=>ptold_any M V w1 hR hf hw);have h0:Hid (0<we.heap.size):=by have:=World.block_lt_of_cell? we ⟨0,0,none⟩ (hsp 0 (by omega));show _<_;omega
 have hspH:=H_ hsp;have hmk:=H_ (fun(V':SV) w1 hR hs=>pmake_any (toldS M) V' w1 hR (few_told hf) hs);clear hf hsp;obtain⟨a0,a1,a2,a3,a4,a5,aP,aD,aR,aT,aH,n0,n1,n2,n3,n4,n5,nP,nD,nR,nT,nH,c0,c1,c2,c3,c4,c5,cP,cD,cR,cT,cH⟩:=V;simp only [wVal] at*;have hb1:=below_alloc we #[.int .i64 M.hz,.slice a0 n0 c0,.slice a1 n1 c1,.slice a2 n2 c2,.slice a3 n3 c3,.slice a4 n4 c4,.slice a5 n5 c5,.slice aP nP cP,.slice aD nD cD,.slice aR nR cR,.slice aT nT cT,.slice aH nH cH] 31;have B1:=Bx.new we 31 [.int .i64 M.hz,.slice a0 n0 c0,.slice a1 n1 c1,.slice a2 n2 c2,.slice a3 n3 c3,.slice a4 n4 c4,.slice a5 n5 c5,.slice aP nP cP,.slice aD nD cD,.slice aR nR cR,.slice aT nT cT,.slice aH nH cH]
 obtain⟨w1,hw1⟩: ∃ q,we.alloc (.cells #[.int .i64 M.hz,.slice a0 n0 c0,.slice a1 n1 c1,.slice a2 n2 c2,.slice a3 n3 c3,.slice a4 n4 c4,.slice a5 n5 c5,.slice aP nP cP,.slice aD nD cD,.slice aR nR cR,.slice aT nT cT,.slice aH nH cH] 31)=q:=⟨_,rfl⟩
 change Bx (we.alloc (.cells #[.int .i64 M.hz,.slice a0 n0 c0,.slice a1 n1 c1,.slice a2 n2 c2,.slice a3 n3 c3,.slice a4 n4 c4,.slice a5 n5 c5,.slice aP nP cP,.slice aD nD cD,.slice aR nR cR,.slice aT nT cT,.slice aH nH cH] 31)) _ _ _ at B1;rw [hw1] at hb1 B1;have hb2:=below_alloc w1 #[.int .i64 0,.int .i64 0,.int .i64 0] 81;have B2:=Bx.new w1 81 [.int .i64 0,.int .i64 0,.int .i64 0];obtain⟨w2,hw2⟩: ∃ q,w1.alloc (.cells #[.int .i64 0,.int .i64 0,.int .i64 0] 81)=q:=⟨_,rfl⟩
 change Bx (w1.alloc (.cells #[.int .i64 0,.int .i64 0,.int .i64 0] 81)) _ _ _ at B2;rw [hw2] at hb2 B2;obtain⟨bn,hbn⟩: ∃ q,we.heap.size=q:=⟨_,rfl⟩
 obtain⟨bw,hq1⟩: ∃ q,bn+1=q:=⟨_,rfl⟩
 have hbwE:w1.heap.size=bw:=by rw [←hq1,←hbn,←hw1];simp
 rw [hbn] at B1;rw [hbwE] at B2;have hup:Hid (Below we.heap.size we w2):=u_ hb1 hb2;have hbew:Hid (we.heap.size≤bw):=by show _≤_;omega
 have B1':=B1.below hb2;have BW:=H_ B2;have hR:=H_ (hRV.out.below hup.out);obtain⟨p0,p1,p2,p3,p4,p5,p6,p7,p8,p9,p10,p11⟩:=c_12 B1';have B1:=H_ B1';rename_i g1;clear g1 B1' B2 hb1 hb2 hr hRV;go_enter Tryz.func55,Tryz.ntmps55;go_wp2_with fail;refine(hwh.out w2 hR.out).mono ?_;rintro e w3 ⟨rfl,hb3⟩;have hup3:Hid (Below we.heap.size we w3):=b_ hup hb3;have hb3H:=H_ hb3;obtain⟨r0,r1,r2,r3,r4,r5,r6,r7,r8,r9,r10,r11⟩:=c_12 (B1.out.below hb3);clear hw1 hw2 hbn hq1 hbwE hb3 hwh p0 p1 p2 p3 p4 p5 p6 p7 p8 p9 p10 p11
 cases hwB:wholeB M with
 |false=>
  have hno:Hid (goodB nameB M=false):=by show _=_;rw [goodB_eq,hwB];rfl
  clear hwB;have hBw:=BW.out.below hb3H.out;obtain⟨hBF,hbF⟩:=hBw.row [.int .i64 2,.int .i64 0,.int .i64 0];obtain⟨wF,hwF⟩: ∃ q,w3.setRow bw (List.toArray [.int .i64 2,.int .i64 0,.int .i64 0])=q:=⟨_,rfl⟩
  rw [hwF] at hBF hbF;have h39:=hup3.out;have hfin:Hid (Below we.heap.size we wF):=h39.trans (hbF.below h39.size (m_ hbew.out));have hBF:=H_ hBF;clear hbF h39;go_wp2_with (with_reducible refine wpList_store_bx (.tmp 2) (.tmp 8) 81 (by with_reducible rfl) ?x1 ?x2 ?x3 hBw ?x4 ?x5 ?x6 hwF ?_)
  all_goals try rfl
  all_goals try kernel_rfl
  refine bodyPost_bx (s:=2) (t:=81) rfl rfl hBF.out (by kernel_rfl) (by kernel_rfl) rfl ?_;exact⟨_,_,_,rfl,⟨fun h=>absurd h (by decide),fun h=>by rw [hno.out] at h;cases h⟩,hfin.out⟩
 |true=>
  have hwt:=H_ hwB;clear hwB;go_wp2_with fail;refine(htl.out w3 (hR.out.below hb3H.out) hwt.out).mono ?_;rintro e w4 ⟨V',rfl,hRS,hb4⟩;clear r0 r1 r2 r3 r4 r5 r6 r7 r8 r9 r10 r11;go_wp2_with fail;refine(hmk.out V' w4 hRS (sp_below hspH.out h0.out (b_ hup3 hb4))).mono ?_;rintro e w5 ⟨vs,c,k,a,rfl,hl,hone,hc,hb5⟩;obtain⟨v0,v1,v2,v3,v4,v5,v6,v7,v8,v9,va,vb,rfl⟩:=len12 hl;have hcc:Hid (c=0↔goodB nameB M=true):=by show _↔_;rw [goodB_eq,hwt.out,Bool.true_and];exact hc
  have hup5:Hid (Below we.heap.size we w5):=(b_ hup3 hb4).trans (hb5.mono (b_ hup3 hb4).size);have hw25:=(b_ hb3H hb4).trans (hb5.mono (b_ hb3H hb4).size);have hBw5:=BW.out.below hw25;clear hc hb4 hb5 hRS htl hmk;have hb6:=below_alloc w5 #[.int .i64 0,.slice none 0 0,.slice none 0 0,.slice none 0 0,.slice none 0 0,.slice none 0 0,.slice none 0 0,.slice none 0 0,.slice none 0 0,.slice none 0 0,.slice none 0 0,.slice none 0 0] 31;have B6:=Bx.new w5 31 [.int .i64 0,.slice none 0 0,.slice none 0 0,.slice none 0 0,.slice none 0 0,.slice none 0 0,.slice none 0 0,.slice none 0 0,.slice none 0 0,.slice none 0 0,.slice none 0 0,.slice none 0 0];obtain⟨w6,hw6⟩: ∃ q,w5.alloc (.cells #[.int .i64 0,.slice none 0 0,.slice none 0 0,.slice none 0 0,.slice none 0 0,.slice none 0 0,.slice none 0 0,.slice none 0 0,.slice none 0 0,.slice none 0 0,.slice none 0 0,.slice none 0 0] 31)=q:=⟨_,rfl⟩
  change Bx (w5.alloc (.cells #[.int .i64 0,.slice none 0 0,.slice none 0 0,.slice none 0 0,.slice none 0 0,.slice none 0 0,.slice none 0 0,.slice none 0 0,.slice none 0 0,.slice none 0 0,.slice none 0 0,.slice none 0 0] 31)) _ _ _ at B6;rw [hw6] at hb6 B6;have hb7:=below_alloc w6 #[.int .i64 0,.int .i64 0,.int .i64 0] 81;have B7:=Bx.new w6 81 [.int .i64 0,.int .i64 0,.int .i64 0];obtain⟨w7,hw7⟩: ∃ q,w6.alloc (.cells #[.int .i64 0,.int .i64 0,.int .i64 0] 81)=q:=⟨_,rfl⟩
  change Bx (w6.alloc (.cells #[.int .i64 0,.int .i64 0,.int .i64 0] 81)) _ _ _ at B7;rw [hw7] at hb7 B7;obtain⟨b6,hb6E⟩: ∃ q,w5.heap.size=q:=⟨_,rfl⟩
  obtain⟨b7,hb7E⟩: ∃ q,b6+1=q:=⟨_,rfl⟩
  have hb7E':w6.heap.size=b7:=by rw [←hb7E,←hb6E,←hw6];simp
  rw [hb6E] at B6;rw [hb7E'] at B7;have B67:=B6.below hb7;obtain⟨B8,hq8⟩:=B67.row [v0,v1,v2,v3,v4,v5,v6,v7,v8,v9,va,vb];obtain⟨w8,hw8⟩: ∃ q,w7.setRow b6 (List.toArray [v0,v1,v2,v3,v4,v5,v6,v7,v8,v9,va,vb])=q:=⟨_,rfl⟩
  rw [hw8] at B8 hq8;have B78:=B7.keep (hq8.keep b7 B7.lt (by simp;omega));obtain⟨B9,hq9⟩:=B78.row [.int .i64 c,.int .i64 k,.int .i64 a];obtain⟨w9,hw9⟩: ∃ q,w8.setRow b7 (List.toArray [.int .i64 c,.int .i64 k,.int .i64 a])=q:=⟨_,rfl⟩
  rw [hw9] at B9 hq9;have hlt5:=hBw5.lt;have hBw9:Bx w9 bw 81 [.int .i64 0,.int .i64 0,.int .i64 0]:=((hBw5.below hb6).below hb7).keep ((hq9.keep bw (((hBw5.below hb6).below hb7).keep (hq8.keep bw ((hBw5.below hb6).below hb7).lt (by simp;omega))).lt (by simp;omega)).trans (hq8.keep bw ((hBw5.below hb6).below hb7).lt (by simp;omega)));obtain⟨hBF,hbF⟩:=hBw9.row [.int .i64 c,.int .i64 k,.int .i64 a];obtain⟨wF,hwF⟩: ∃ q,w9.setRow bw (List.toArray [.int .i64 c,.int .i64 k,.int .i64 a])=q:=⟨_,rfl⟩
  rw [hwF] at hBF hbF;have h7:=b_ hup5 (u_ hb6 hb7);have hge:we.heap.size≤b6:=by rw [←hb6E];exact hup5.out.size
  have h8:=h7.trans (hq8.below h7.size (m_ hge));have h9:=h8.trans (hq9.below h8.size (fun x hx=>by simp only [List.mem_singleton] at hx;subst hx;omega));have hfin:Hid (Below we.heap.size we wF):=h9.trans (hbF.below h9.size (m_ hbew.out));obtain⟨z0,z1,z2⟩:=c_3 B9;have hBF:=H_ hBF;have honH:=H_ hone;clear hl hone hbF hlt5 hge h7 h8 h9 hq8 hq9 B9 hb6 hb7 B6 hBw5 hw25 B8 B7;rename_i gF;clear gF;go_wp2_with (first|(with_reducible refine wpList_store_bx (.tmp 3) (.tmp 13) 31 (by with_reducible rfl) ?k1 ?k2 ?k3 B67 ?k4 ?k5 ?k6 hw8 ?_)|(with_reducible refine wpList_store_bx (.tmp 4) (.tmp 14) 81 (by with_reducible rfl) ?y1 ?y2 ?y3 B78 ?y4 ?y5 ?y6 hw9 ?_)|(with_reducible refine wpList_store_bx (.tmp 2) (.tmp 15) 81 (by with_reducible rfl) ?z1 ?z2 ?z3 hBw9 ?z4 ?z5 ?z6 hwF ?_))
  all_goals try(simp only [List.all_eq_true];exact honH.out)
  all_goals try rfl
  all_goals try kernel_rfl
  refine bodyPost_bx (s:=2) (t:=81) rfl rfl hBF.out (by kernel_rfl) (by kernel_rfl) rfl ?_;exact⟨_,_,_,rfl,hcc.out,hfin.out⟩
