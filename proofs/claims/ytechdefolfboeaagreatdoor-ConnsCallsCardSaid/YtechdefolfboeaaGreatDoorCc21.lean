/- Texts of one chain, merged. -/
import Derived.Laws.EntriesVeiled
import Derived.Test.YtechdefolfboeaaGreatDoorCc1
import Derived.Test.YtechdefolfboeaaGreatDoorCc20
set_option linter.unusedVariables false
set_option linter.unusedSimpArgs false
set_option maxRecDepth 100000
set_option maxHeartbeats 2000000
namespace Go.Proofs.YtechdefolfboeaaGreatDoor
open Go.RowKit B K
theorem pnumb1_any (p:SPathP) (we:World):Calls Tryz.prog 173 #[.agg (spathE p).toArray] we fun e w'=>e= .returned (.string p.name)∧Below we.heap.size we w':=by
 obtain⟨x1,x2,x3,x4⟩:=p
 simp only [spathE]
 obtain⟨wa,ba,hwa,hbaE,hbwa,Bwa⟩:=box1 we 171 [.string x1,.string x2,.string x3,.int .i64 x4]
 have q0:=Bwa.cell 0 rfl
 have hbH:=Lib.hid hbwa
 clear Bwa hbwa
 go_enter Tryz.func173,Tryz.ntmps173
 go_wp2_with fail
 clear hwa hbaE
 go_returns
 exact⟨rfl,hbH.out⟩
theorem pnumb2_any (p:SDoorP) (we:World):Calls Tryz.prog 175 #[.agg (sdoorE p).toArray] we fun e w'=>e= .returned (.string p.name)∧Below we.heap.size we w':=by
 obtain⟨x1,x2,x3,x4,x5,x6,x7⟩:=p
 simp only [sdoorE]
 obtain⟨wa,ba,hwa,hbaE,hbwa,Bwa⟩:=box1 we 173 [.string x1,.string x2,.string x3,.int .i64 x4,.int .i64 x5,.int .i64 x6,.int .i64 x7]
 have q0:=Bwa.cell 0 rfl
 have hbH:=Lib.hid hbwa
 clear Bwa hbwa
 go_enter Tryz.func175,Tryz.ntmps175
 go_wp2_with fail
 clear hwa hbaE
 go_returns
 exact⟨rfl,hbH.out⟩
theorem pnumb4_any (p:STripP) (we:World):Calls Tryz.prog 179 #[.agg (stripE p).toArray] we fun e w'=>e= .returned (.string p.name)∧Below we.heap.size we w':=by
 obtain⟨x1,x2,x3,x4,x5⟩:=p
 simp only [stripE]
 obtain⟨wa,ba,hwa,hbaE,hbwa,Bwa⟩:=box1 we 179 [.string x1,.string x2,.int .i64 x3,.int .i64 x4,.int .i64 x5]
 have q0:=Bwa.cell 0 rfl
 have hbH:=Lib.hid hbwa
 clear Bwa hbwa
 go_enter Tryz.func179,Tryz.ntmps179
 go_wp2_with fail
 clear hwa hbaE
 go_returns
 exact⟨rfl,hbH.out⟩
theorem pnumb5_any (p:SHazP) (we:World):Calls Tryz.prog 181 #[.agg (shazE p).toArray] we fun e w'=>e= .returned (.string p.name)∧Below we.heap.size we w':=by
 obtain⟨x1,x2,x3,x4,x5⟩:=p
 simp only [shazE]
 obtain⟨wa,ba,hwa,hbaE,hbwa,Bwa⟩:=box1 we 181 [.string x1,.string x2,.int .i64 x3,.int .i64 x4,.int .i64 x5]
 have q0:=Bwa.cell 0 rfl
 have hbH:=Lib.hid hbwa
 clear Bwa hbwa
 go_enter Tryz.func181,Tryz.ntmps181
 go_wp2_with fail
 clear hwa hbaE
 go_returns
 exact⟨rfl,hbH.out⟩
theorem pnumb3_any (p:REl) (we:World):Calls Tryz.prog 177 #[.agg (relE p).toArray] we fun e w'=>e= .returned (.string p.1)∧Below we.heap.size we w':=by
 obtain⟨x0,⟨x1,x2,x3⟩,⟨x4,x5,x6⟩,⟨x7,x8,x9⟩⟩:=p
 simp only [relE,SlV.v]
 obtain⟨wa,ba,hwa,hbaE,hbwa,Bwa⟩:=box1 we 177 [.string x0,.slice x1 x2 x3,.slice x4 x5 x6,.slice x7 x8 x9]
 have q0:=Bwa.cell 0 rfl
 have hbH:=Lib.hid hbwa
 clear Bwa hbwa
 go_enter Tryz.func177,Tryz.ntmps177
 go_wp2_with fail
 clear hwa hbaE
 go_returns
 exact⟨rfl,hbH.out⟩
theorem pnumb6_any (bx:Nat) (a:Option Addr) (n c:Nat) (l:List Str) (s:Str) (w:World) (hx:w.cell? ⟨bx,1,none⟩=some (.slice a n c)) (hr:Rd w 1 strE a n l) (hn:n≤1000000):
 Calls Tryz.prog 182 #[.string s,.pointer (some ⟨bx,0,none⟩)] w fun e w'=>e= .returned (.int .i64 (placeI l s))∧Below w.heap.size w w':=by
 have h:=Lib.hid (pplace_any a n c l s w hr (by omega))
 clear hr
 go_enter Tryz.func182,Tryz.ntmps182
 go_wp2_with fail
 refine h.out.mono ?_;rintro e w' ⟨rfl,hb⟩
 have hbH:=Lib.hid hb
 clear hb
 go_wp2_with fail
 go_returns
 exact⟨rfl,hbH.out⟩
structure NC (w:World) (b4 b5 bx bw:Nat) (a0:Option Addr) (n0 c0:Nat) (stops:List Str):Prop where
 c5:w.cell? ⟨b5,0,none⟩=some (.func (.func 182) #[] #[.pointer (some ⟨bx,0,none⟩)])
 cx:w.cell? ⟨bx,1,none⟩=some (.slice a0 n0 c0)
 r0:Rd w 1 strE a0 n0 stops
 c4:w.cell? ⟨b4,0,none⟩=some (.pointer (some ⟨bw,1,none⟩))
 m0:n0≤1000000
theorem NC.below {w w':World} {b4 b5 bx bw:Nat} {a0:Option Addr} {n0 c0:Nat} {stops:List Str} (h:NC w b4 b5 bx bw a0 n0 c0 stops) (k:Below w.heap.size w w'):NC w' b4 b5 bx bw a0 n0 c0 stops:=
 ⟨up_cell k h.c5,up_cell k h.cx,h.r0.below k,up_cell k h.c4,h.m0⟩
theorem NC.stop {w:World} {b4 b5 bx bw:Nat} {a0:Option Addr} {n0 c0:Nat} {stops:List Str} (h:NC w b4 b5 bx bw a0 n0 c0 stops) (s:Str):Calls Tryz.prog 182 #[.string s,.pointer (some ⟨bx,0,none⟩)] w fun e w'=>e= .returned (.int .i64 (placeI stops s))∧Below w.heap.size w w':=
 pnumb6_any bx a0 n0 c0 stops s w h.cx h.r0 h.m0
theorem pnumb7_any (p:SPathP) (b4 b5 bx bw:Nat) (a0:Option Addr) (n0 c0:Nat) (stops:List Str) (we:World) (h:NC we b4 b5 bx bw a0 n0 c0 stops):Calls Tryz.prog 185 #[.agg (spathE p).toArray,.pointer (some ⟨b5,0,none⟩)] we fun e w'=>e= .returned (.agg (tripE (placeI stops p.a,placeI stops p.b,p.len)).toArray)∧Below we.heap.size we w':=by
 obtain⟨x1,x2,x3,x4⟩:=p
 simp only [spathE]
 obtain⟨w1,w2,b1,b2,hw1,hw2,hbE1,hbE2,hbF2,hb1,hb2,hup,B1,B2,hge1,hge2⟩:=enter2 we 171 99 [.string x1,.string x2,.string x3,.int .i64 x4] [.int .i64 0,.int .i64 0,.int .i64 0]
 have p1:=B1.cell 1 rfl
 have p2:=B1.cell 2 rfl
 have p3:=B1.cell 3 rfl
 have hN:=Lib.hid (h.below hup.out)
 have hc5:=hN.out.c5
 have l5:=World.block_lt_of_cell? w2 ⟨b5,0,none⟩ hc5
 have l1:=B1.lt
 have B2:=Lib.hid B2
 rename_i gX
 clear gX hb1 hb2 h B1
 go_enter Tryz.func185,Tryz.ntmps185
 go_wp2_with fail
 go_upto_region 1 with fail
 refine wp_region_late [0,0,0,0,0,0,0,0,0,0,0,2] (by kernel_rfl) (by kernel_rfl) ?_
 intro C hC
 simp only [pickK,Nat.reduceEqDiff, ↓reduceIte]
 repeat(go_big_quiet_step (first
  |(intro _;with_reducible rfl)
  |(intro hc
    have m0:=c_ hc l5 hc5
    have m1:=c_ hc l1 p1
    have m2:=c_ hc l1 p2
    have m3:=c_ hc l1 p3
    simp only [m0,m1,m2,m3,Result.andThen]
    exact⟨trivial,rfl⟩)
  |(intro hc;with_reducible refine((hN.out.below hc).stop x2).mono ?_;rintro e w'' ⟨rfl,hw⟩;exact⟨rfl,u_ hc hw⟩)
  |(intro hc;with_reducible refine((hN.out.below hc).stop x3).mono ?_;rintro e w'' ⟨rfl,hw⟩;exact⟨rfl,u_ hc hw⟩)))
 refine wpQuiet_nil ?_
 clear hC
 intro C' hC'
 refine wpQuiet_nil ?_
 clear hC'
 intro wq hbq
 clear hc5 hw1 hw2 hbE1 hbE2 hbF2 p1 p2 p3
 have hBq:=B2.out.below hbq
 obtain⟨hBF,hbF⟩:=hBq.row [.int .i64 (placeI stops x2),.int .i64 (placeI stops x3),.int .i64 x4]
 obtain⟨wF,hwF⟩: ∃ q,wq.setRow b2 (List.toArray [.int .i64 (placeI stops x2),.int .i64 (placeI stops x3),.int .i64 x4])=q:=⟨_,rfl⟩
 rw [hwF] at hBF hbF
 have h39:=b_ hup hbq
 have hfin:Hid (Below we.heap.size we wF):=h39.trans (hbF.below h39.size (fun x hx=>by simp only [List.mem_singleton] at hx;subst hx;exact hge2.out))
 replace hBF:=Lib.hid hBF
 clear hbF h39 hbq
 go_wp2_with (refine wpList_store_bx (.tmp 3) (.tmp 14) 99 (by with_reducible rfl) rfl rfl rfl hBq (by kernel_rfl) rfl rfl hwF ?_)
 refine bodyPost_bx (s:=3) (t:=99) rfl rfl hBF.out (by kernel_rfl) (by kernel_rfl) rfl ?_
 exact⟨rfl,hfin.out⟩
theorem pnumb8_any (p:SDoorP) (b4 b5 bx bw:Nat) (a0:Option Addr) (n0 c0:Nat) (stops:List Str) (we:World) (h:NC we b4 b5 bx bw a0 n0 c0 stops):Calls Tryz.prog 187 #[.agg (sdoorE p).toArray,.pointer (some ⟨b5,0,none⟩)] we fun e w'=>e= .returned (.agg (doorE ⟨placeI stops p.a,placeI stops p.b,p.len,p.fr,p.ev,p.du⟩).toArray)∧Below we.heap.size we w':=by
 obtain⟨x1,x2,x3,x4,x5,x6,x7⟩:=p
 simp only [sdoorE]
 obtain⟨w1,w2,b1,b2,hw1,hw2,hbE1,hbE2,hbF2,hb1,hb2,hup,B1,B2,hge1,hge2⟩:=enter2 we 173 104 [.string x1,.string x2,.string x3,.int .i64 x4,.int .i64 x5,.int .i64 x6,.int .i64 x7] [.int .i64 0,.int .i64 0,.int .i64 0,.int .i64 0,.int .i64 0,.int .i64 0]
 have p1:=B1.cell 1 rfl
 have p2:=B1.cell 2 rfl
 have p3:=B1.cell 3 rfl
 have p4:=B1.cell 4 rfl
 have p5:=B1.cell 5 rfl
 have p6:=B1.cell 6 rfl
 have hN:=Lib.hid (h.below hup.out)
 have hc5:=hN.out.c5
 have l5:=World.block_lt_of_cell? w2 ⟨b5,0,none⟩ hc5
 have l1:=B1.lt
 have B2:=Lib.hid B2
 rename_i gX
 clear gX hb1 hb2 h B1
 go_enter Tryz.func187,Tryz.ntmps187
 go_wp2_with fail
 go_upto_region 1 with fail
 refine wp_region_late [0,0,0,0,0,0,0,0,0,0,0,0,0,2] (by kernel_rfl) (by kernel_rfl) ?_
 intro C hC
 simp only [pickK,Nat.reduceEqDiff, ↓reduceIte]
 repeat(go_big_quiet_step (first
  |(intro _;with_reducible rfl)
  |(intro hc
    have m0:=c_ hc l5 hc5
    have m1:=c_ hc l1 p1
    have m2:=c_ hc l1 p2
    have m3:=c_ hc l1 p3
    have m4:=c_ hc l1 p4
    have m5:=c_ hc l1 p5
    have m6:=c_ hc l1 p6
    simp only [m0,m1,m2,m3,m4,m5,m6,Result.andThen]
    exact⟨trivial,rfl⟩)
  |(intro hc;with_reducible refine((hN.out.below hc).stop x2).mono ?_;rintro e w'' ⟨rfl,hw⟩;exact⟨rfl,u_ hc hw⟩)
  |(intro hc;with_reducible refine((hN.out.below hc).stop x3).mono ?_;rintro e w'' ⟨rfl,hw⟩;exact⟨rfl,u_ hc hw⟩)))
 refine wpQuiet_nil ?_
 clear hC
 intro C' hC'
 refine wpQuiet_nil ?_
 clear hC'
 intro wq hbq
 clear hc5 hw1 hw2 hbE1 hbE2 hbF2 p1 p2 p3 p4 p5 p6
 have hBq:=B2.out.below hbq
 obtain⟨hBF,hbF⟩:=hBq.row [.int .i64 (placeI stops x2),.int .i64 (placeI stops x3),.int .i64 x4,.int .i64 x5,.int .i64 x6,.int .i64 x7]
 obtain⟨wF,hwF⟩: ∃ q,wq.setRow b2 (List.toArray [.int .i64 (placeI stops x2),.int .i64 (placeI stops x3),.int .i64 x4,.int .i64 x5,.int .i64 x6,.int .i64 x7])=q:=⟨_,rfl⟩
 rw [hwF] at hBF hbF
 have h39:=b_ hup hbq
 have hfin:Hid (Below we.heap.size we wF):=h39.trans (hbF.below h39.size (fun x hx=>by simp only [List.mem_singleton] at hx;subst hx;exact hge2.out))
 replace hBF:=Lib.hid hBF
 clear hbF h39 hbq
 go_wp2_with (refine wpList_store_bx (.tmp 3) (.tmp 16) 104 (by with_reducible rfl) rfl rfl rfl hBq (by kernel_rfl) rfl rfl hwF ?_)
 refine bodyPost_bx (s:=3) (t:=104) rfl rfl hBF.out (by kernel_rfl) (by kernel_rfl) rfl ?_
 exact⟨rfl,hfin.out⟩
theorem pnumb10_any (p:STripP) (b4 b5 bx bw:Nat) (a0:Option Addr) (n0 c0:Nat) (stops:List Str) (we:World) (h:NC we b4 b5 bx bw a0 n0 c0 stops) (a3:Option Addr) (n3 c3:Nat) (l3:List Str) (h3:we.cell? ⟨bw,4,none⟩=some (.slice a3 n3 c3)) (hr3:Rd we 1 strE a3 n3 l3) (hn3:n3≤1000000):Calls Tryz.prog 192 #[.agg (stripE p).toArray,.pointer (some ⟨b4,0,none⟩)] we fun e w'=>e= .returned (.agg (tripP ⟨placeI l3 p.route,p.fr,p.ev,p.un⟩).toArray)∧Below we.heap.size we w':=by
 obtain⟨x1,x2,x3,x4,x5⟩:=p
 simp only [stripE]
 obtain⟨w1,w2,b1,b2,hw1,hw2,hbE1,hbE2,hbF2,hb1,hb2,hup,B1,B2,hge1,hge2⟩:=enter2 we 179 53 [.string x1,.string x2,.int .i64 x3,.int .i64 x4,.int .i64 x5] [.int .i64 0,.int .i64 0,.int .i64 0,.int .i64 0]
 have p1:=B1.cell 1 rfl
 have p2:=B1.cell 2 rfl
 have p3:=B1.cell 3 rfl
 have p4:=B1.cell 4 rfl
 have c4:=(h.below hup.out).c4
 have c3':=up_cell hup.out h3
 have hr:=Lib.hid (hr3.below hup.out)
 have l4:=World.block_lt_of_cell? w2 ⟨b4,0,none⟩ c4
 have l3':=World.block_lt_of_cell? w2 ⟨bw,4,none⟩ c3'
 have l1:=B1.lt
 have B2:=Lib.hid B2
 rename_i gX
 clear gX hb1 hb2 h B1 h3 hr3
 go_enter Tryz.func192,Tryz.ntmps192
 go_wp2_with fail
 go_upto_region 1 with fail
 refine wp_region_late [0,0,0,0,0,0,0,0,0,0,0,0,0,0,2] (by kernel_rfl) (by kernel_rfl) ?_
 intro C hC
 simp only [pickK,Nat.reduceEqDiff, ↓reduceIte]
 repeat(go_big_quiet_step (first
  |(intro _;with_reducible rfl)
  |(intro hc
    have m0:=c_ hc l4 c4
    have m1:=c_ hc l3' c3'
    have m2:=c_ hc l1 p1
    have m3:=c_ hc l1 p2
    have m4:=c_ hc l1 p3
    have m5:=c_ hc l1 p4
    simp only [m0,m1,m2,m3,m4,m5,Result.andThen]
    exact⟨trivial,rfl⟩)
  |(intro hc;with_reducible refine(pplace_any a3 n3 c3 l3 x2 _ (hr.out.below hc) (by omega)).mono ?_;rintro e w'' ⟨rfl,hw⟩;exact⟨rfl,u_ hc hw⟩)))
 refine wpQuiet_nil ?_
 clear hC
 intro C' hC'
 refine wpQuiet_nil ?_
 clear hC'
 intro wq hbq
 clear c4 c3' hw1 hw2 hbE1 hbE2 hbF2 p1 p2 p3 p4
 have hBq:=B2.out.below hbq
 obtain⟨hBF,hbF⟩:=hBq.row [.int .i64 (placeI l3 x2),.int .i64 x3,.int .i64 x4,.int .i64 x5]
 obtain⟨wF,hwF⟩: ∃ q,wq.setRow b2 (List.toArray [.int .i64 (placeI l3 x2),.int .i64 x3,.int .i64 x4,.int .i64 x5])=q:=⟨_,rfl⟩
 rw [hwF] at hBF hbF
 have h39:=b_ hup hbq
 have hfin:Hid (Below we.heap.size we wF):=h39.trans (hbF.below h39.size (fun x hx=>by simp only [List.mem_singleton] at hx;subst hx;exact hge2.out))
 replace hBF:=Lib.hid hBF
 clear hbF h39 hbq
 go_wp2_with (refine wpList_store_bx (.tmp 3) (.tmp 17) 53 (by with_reducible rfl) rfl rfl rfl hBq (by kernel_rfl) rfl rfl hwF ?_)
 refine bodyPost_bx (s:=3) (t:=53) rfl rfl hBF.out (by kernel_rfl) (by kernel_rfl) rfl ?_
 exact⟨rfl,hfin.out⟩
theorem pnumb11_any (p:SHazP) (b4 b5 bx bw:Nat) (a0:Option Addr) (n0 c0:Nat) (stops:List Str) (we:World) (h:NC we b4 b5 bx bw a0 n0 c0 stops) (a1:Option Addr) (n1 c1:Nat) (l1:List Str) (h1:we.cell? ⟨bw,2,none⟩=some (.slice a1 n1 c1)) (hr1:Rd we 1 strE a1 n1 l1) (hn1:n1≤1000000):Calls Tryz.prog 194 #[.agg (shazE p).toArray,.pointer (some ⟨b5,0,none⟩),.pointer (some ⟨b4,0,none⟩)] we fun e w'=>e= .returned (.agg (hazE (if placeI stops p.on<0 then⟨false,placeI l1 p.on,p.fr,p.ev,p.du⟩ else⟨true,placeI stops p.on,p.fr,p.ev,p.du⟩)).toArray)∧Below we.heap.size we w':=by
 obtain⟨x1,x2,x3,x4,x5⟩:=p
 simp only [shazE]
 obtain⟨w1,w2,b1,b2,hw1,hw2,hbE1,hbE2,hbF2,hb1,hb2,hup,B1,B2,hge1,hge2⟩:=enter2 we 181 108 [.string x1,.string x2,.int .i64 x3,.int .i64 x4,.int .i64 x5] [.bool false,.int .i64 0,.int .i64 0,.int .i64 0,.int .i64 0]
 have p1:=B1.cell 1 rfl
 have hN:=Lib.hid (h.below hup.out)
 have hc5:=hN.out.c5
 have hcw:=up_cell hup.out h1
 have hr:=Lib.hid (hr1.below hup.out)
 have B1:=Lib.hid B1
 have B2:=Lib.hid B2
 rename_i gX gY
 clear gX gY hb1 hb2 h h1 hr1
 have hst:=Lib.hid (fun w h=>NC.stop (w:=w) (b4:=b4) (b5:=b5) (bx:=bx) (bw:=bw) (a0:=a0) (n0:=n0) (c0:=c0) (stops:=stops) h x2)
 obtain⟨pq,hq⟩: ∃ q,placeI stops x2=q:=⟨_,rfl⟩
 rw [hq] at hst
 show Calls _ _ _ _ (fun e w'=>e= .returned (.agg (hazE (if placeI stops x2<0 then⟨false,placeI l1 x2,x3,x4,x5⟩ else⟨true,placeI stops x2,x3,x4,x5⟩)).toArray)∧_)
 rw [hq]
 clear hq
 by_cases hneg:pq<0
 ·rw [if_pos hneg]
  have hd:decide (pq≥0)=false:=decide_eq_false (by omega)
  clear hneg
  go_enter Tryz.func194,Tryz.ntmps194
  go_wp2_with fail
  refine(hst.out w2 hN.out).mono ?_;rintro e w3 ⟨rfl,hb3⟩
  clear hw1 hw2 hbE1 hbE2 hbF2 p1 hc5
  have B13:=B1.out.below hb3
  have z1:=B13.cell 1 rfl
  have z2:=B13.cell 2 rfl
  have z3:=B13.cell 3 rfl
  have z4:=B13.cell 4 rfl
  have l1':=B13.lt
  have c4:=(hN.out.below hb3).c4
  have l4:=World.block_lt_of_cell? w3 ⟨b4,0,none⟩ c4
  have cw:=up_cell hb3 hcw
  have lw:=World.block_lt_of_cell? w3 ⟨bw,2,none⟩ cw
  have hr3:=Lib.hid (hr.out.below hb3)
  have hb3H:=Lib.hid hb3
  clear B13 hb3 hcw
  go_wp2_with fail
  go_upto_region 4 with fail
  refine wp_region_late [0,0,0,0,0,0,0,0,0,0,2] (by kernel_rfl) (by kernel_rfl) ?_
  intro C hC
  simp only [pickK,Nat.reduceEqDiff, ↓reduceIte]
  repeat(go_big_quiet_step (first
   |(intro _;with_reducible rfl)
   |(intro hc
     have m0:=c_ hc l4 c4
     have m1:=c_ hc lw cw
     have m2:=c_ hc l1' z1
     have m3:=c_ hc l1' z2
     have m4:=c_ hc l1' z3
     have m5:=c_ hc l1' z4
     simp only [m0,m1,m2,m3,m4,m5,Result.andThen]
     exact⟨trivial,rfl⟩)
   |(intro hc;with_reducible refine(pplace_any a1 n1 c1 l1 x2 _ (hr3.out.below hc) (by omega)).mono ?_;rintro e w'' ⟨rfl,hw⟩;exact⟨rfl,u_ hc hw⟩)))
  refine wpQuiet_nil ?_
  clear hC
  intro C' hC'
  refine wpQuiet_nil ?_
  clear hC'
  intro wq hbq
  clear c4 cw z1 z2 z3 z4
  have hBq:=B2.out.below (b_ hb3H hbq)
  obtain⟨hBF,hbF⟩:=hBq.row [.bool false,.int .i64 (placeI l1 x2),.int .i64 x3,.int .i64 x4,.int .i64 x5]
  obtain⟨wF,hwF⟩: ∃ q,wq.setRow b2 (List.toArray [.bool false,.int .i64 (placeI l1 x2),.int .i64 x3,.int .i64 x4,.int .i64 x5])=q:=⟨_,rfl⟩
  rw [hwF] at hBF hbF
  have h39:=b_ hup ((u_ hb3H.out hbq))
  have hfin:Hid (Below we.heap.size we wF):=h39.trans (hbF.below h39.size (fun x hx=>by simp only [List.mem_singleton] at hx;subst hx;exact hge2.out))
  replace hBF:=Lib.hid hBF
  clear hbF h39
  go_wp2_with (refine wpList_store_bx (.tmp 4) (.tmp 25) 108 (by with_reducible rfl) rfl rfl rfl hBq (by kernel_rfl) rfl rfl hwF ?_)
  refine bodyPost_bx (s:=4) (t:=108) rfl rfl hBF.out (by kernel_rfl) (by kernel_rfl) rfl ?_
  exact⟨rfl,hfin.out⟩
 ·rw [if_neg hneg]
  have hd:decide (pq≥0)=true:=decide_eq_true (by omega)
  clear hneg
  go_enter Tryz.func194,Tryz.ntmps194
  go_wp2_with fail
  refine(hst.out w2 hN.out).mono ?_;rintro e w3 ⟨rfl,hb3⟩
  clear hw1 hw2 hbE1 hbE2 hbF2 p1 hc5
  have B13:=B1.out.below hb3
  have z2:=B13.cell 2 rfl
  have z3:=B13.cell 3 rfl
  have z4:=B13.cell 4 rfl
  have hb3H:=Lib.hid hb3
  clear B13 hb3 hcw
  have hBq:=B2.out.below hb3H.out
  obtain⟨hBF,hbF⟩:=hBq.row [.bool true,.int .i64 pq,.int .i64 x3,.int .i64 x4,.int .i64 x5]
  obtain⟨wF,hwF⟩: ∃ q,w3.setRow b2 (List.toArray [.bool true,.int .i64 pq,.int .i64 x3,.int .i64 x4,.int .i64 x5])=q:=⟨_,rfl⟩
  rw [hwF] at hBF hbF
  have h39:=b_ hup (hb3H.out)
  have hfin:Hid (Below we.heap.size we wF):=h39.trans (hbF.below h39.size (fun x hx=>by simp only [List.mem_singleton] at hx;subst hx;exact hge2.out))
  replace hBF:=Lib.hid hBF
  clear hbF h39
  go_wp2_with (refine wpList_store_bx (.tmp 4) (.tmp 15) 108 (by with_reducible rfl) rfl rfl rfl hBq (by kernel_rfl) rfl rfl hwF ?_)
  refine bodyPost_bx (s:=4) (t:=108) rfl rfl hBF.out (by kernel_rfl) (by kernel_rfl) rfl ?_
  exact⟨rfl,hfin.out⟩
theorem pnumb9_any (x:REl) (r:SRouteP) (b4 b5 bx bw:Nat) (a0:Option Addr) (n0 c0:Nat) (stops:List Str) (we:World) (h:NC we b4 b5 bx bw a0 n0 c0 stops) (h1:Rd we 1 strE x.2.1.1 x.2.1.2.1 r.stops) (h2:Rd we 1 (numE .i64) x.2.2.1.1 x.2.2.1.2.1 r.rides) (h3:Rd we 1 (numE .i64) x.2.2.2.1 x.2.2.2.2.1 r.stays) (m1:x.2.1.2.1≤1000000) (m2:x.2.2.1.2.1≤1000000) (m3:x.2.2.2.2.1≤1000000):Calls Tryz.prog 189 #[.agg (relE x).toArray,.pointer (some ⟨b5,0,none⟩)] we fun e w'=> ∃ y:RE3,e= .returned (.agg (re3E y).toArray)∧RouT we.heap.size w' y ⟨r.stops.map (placeI stops),r.rides,r.stays⟩∧Below we.heap.size we w':=by
 obtain⟨x0,⟨x1,x2,x3⟩,⟨x4,x5,x6⟩,⟨x7,x8,x9⟩⟩:=x
 simp only [relE,SlV.v] at*
 obtain⟨w1,w2,b1,b2,hw1,hw2,hbE1,hbE2,hbF2,hb1,hb2,hup,B1,B2,hge1,hge2⟩:=enter2 we 177 51 [.string x0,.slice x1 x2 x3,.slice x4 x5 x6,.slice x7 x8 x9] [.slice none 0 0,.slice none 0 0,.slice none 0 0]
 have p1:=B1.cell 1 rfl
 have p2:=B1.cell 2 rfl
 have p3:=B1.cell 3 rfl
 have hN:=Lib.hid (h.below hup.out)
 have E1:=Lib.hid h1.len
 have E2:=Lib.hid h2.len
 have E3:=Lib.hid h3.len
 have R1:=Lib.hid (h1.below hup.out)
 have R2:=Lib.hid (h2.below hup.out)
 have R3:=Lib.hid (h3.below hup.out)
 have hc5:=hN.out.c5
 have l5:=World.block_lt_of_cell? w2 ⟨b5,0,none⟩ hc5
 have l1:=B1.lt
 have c1:=Lib.hid (fun(w:World) (h:Below w2.heap.size w2 w)=>allSI_any 182 #[.pointer (some ⟨bx,0,none⟩)] (enters_of Tryz.func182 (by kernel_rfl) rfl) (placeI stops) x1 x2 x3 r.stops w (R1.out.below h) (by omega) (fun W s hb _=>((hN.out.below h).below hb).stop s))
 have c2:=Lib.hid (fun(w:World) (h:Below w2.heap.size w2 w)=>clNum_any x4 x5 x6 r.rides w (R2.out.below h) (by omega))
 have c3:=Lib.hid (fun(w:World) (h:Below w2.heap.size w2 w)=>clNum_any x7 x8 x9 r.stays w (R3.out.below h) (by omega))
 have B2:=Lib.hid B2
 rename_i gX
 clear gX hb1 hb2 h B1 h1 h2 h3
 go_enter Tryz.func189,Tryz.ntmps189
 go_wp2_with fail
 go_upto_region 1 with fail
 refine wp_region_lateM w2.heap.size [0,0,0,3,0,0,3,0,0,3,4,2] (by kernel_rfl) (by kernel_rfl) (Nat.le_refl _) ?_
 intro C hC
 simp only [pickK,pickT,Nat.reduceLeDiff,Nat.reduceEqDiff, ↓reduceIte]
 repeat(go_big_quiet_step (first
  |(intro _;with_reducible rfl)
  |(intro hc
    have m0:=c_ hc l5 hc5
    have m1:=c_ hc l1 p1
    have m2:=c_ hc l1 p2
    have m3:=c_ hc l1 p3
    simp only [m0,m1,m2,m3,Result.andThen]
    exact⟨trivial,rfl⟩)))
 refine wpQuiet_nil ?_
 clear hC
 intro C' hC'
 refine wpQuiet_nil ?_
 clear hC'
 intro wq hbq
 replace hbq:Below w2.heap.size w2 wq:=by rw [hbq];exact⟨rfl,rfl,rfl,Nat.le_refl _,fun _ _=>rfl⟩
 have hbqH:=Lib.hid hbq
 clear hbq hw1 hw2 hbE1 hbE2 hbF2 p1 p2 p3 hc5
 refine wpTail4_one (by decide) ?_
 go_wp2_with fail
 refine(c1.out wq hbqH.out).mono ?_;rintro e w5 ⟨v1,rfl,ow1,hb5⟩
 have h5:=h_ hbqH hb5
 obtain⟨D1,k1',e1,_⟩:=Rd.of_own num_len (show(r.stops.map (placeI stops)).length =x2 by rw [List.length_map];exact E1.out) ow1
 subst e1
 have O1:=Lib.hid ow1
 clear hb5 ow1
 go_wp2_with fail
 refine⟨fun _=>h5.out,?_⟩
 refine wpTail4_one (by decide) ?_
 go_wp2_with fail
 refine(c2.out w5 h5.out).mono ?_;rintro e w6 ⟨v2,rfl,ow2,hb6⟩
 have h6:=h_ h5 hb6
 obtain⟨D2,k2',e2,_⟩:=Rd.of_own num_len E2.out ow2
 subst e2
 have O2:=Lib.hid ow2
 have B6:=Lib.hid hb6
 clear hb6 ow2
 go_wp2_with fail
 refine⟨fun _=>h6.out,?_⟩
 refine wpTail4_one (by decide) ?_
 go_wp2_with fail
 refine(c3.out w6 h6.out).mono ?_;rintro e w7 ⟨v3,rfl,ow3,hb7⟩
 have h7:=h_ h6 hb7
 obtain⟨D3,k3',e3,_⟩:=Rd.of_own num_len E3.out ow3
 subst e3
 have O3:=Lib.hid ow3
 have B7:=Lib.hid hb7
 clear hb7 ow3
 go_wp2_with fail
 refine⟨fun _=>h7.out,?_⟩
 refine wpTail4_quiet ?_
 intro C' hC'
 repeat(go_big_quiet_step (first|(intro _;with_reducible rfl)))
 refine wpQuiet_nil ?_
 clear hC'
 refine wpTail4_list _ _ _ (by simp) ?_
 simp only [List.map_cons,List.map_nil]
 have hBq:=B2.out.below h7.out
 obtain⟨hBF,hbF⟩:=hBq.row [.slice D1 x2 k1',.slice D2 x5 k2',.slice D3 x8 k3']
 obtain⟨wF,hwF⟩: ∃ q,w7.setRow b2 (List.toArray [.slice D1 x2 k1',.slice D2 x5 k2',.slice D3 x8 k3'])=q:=⟨_,rfl⟩
 rw [hwF] at hBF hbF
 have h39:=b_ hup h7.out
 have hfin:Hid (Below we.heap.size we wF):=h39.trans (hbF.below h39.size (fun x hx=>by simp only [List.mem_singleton] at hx;subst hx;exact hge2.out))
 have hgq:=Nat.le_trans hup.out.size hbqH.out.size
 have hg5:=Nat.le_trans hup.out.size h5.out.size
 have hg6:=Nat.le_trans hup.out.size h6.out.size
 have hT:Hid (RouT we.heap.size wF ((D1,x2,k1'),(D2,x5,k2'),(D3,x8,k3')) ⟨r.stops.map (placeI stops),r.rides,r.stays⟩):=by
  refine⟨?_,?_,?_⟩
  ·have:=own_box (own_base (own_below (own_below O1.out B6.out) B7.out) hgq) hBq (by decide) hbF
   show wF.ownsRow _ _ _ _ (r.stops.map (placeI stops)).length _
   rw [List.length_map,E1.out];exact this
  ·have:=own_box (own_base (own_below O2.out B7.out) hg5) hBq (by decide) hbF
   show wF.ownsRow _ _ _ _ r.rides.length _
   rw [E2.out];exact this
  ·have:=own_box (own_base O3.out hg6) hBq (by decide) hbF
   show wF.ownsRow _ _ _ _ r.stays.length _
   rw [E3.out];exact this
 replace hBF:=Lib.hid hBF
 clear hbF h39 hgq hg5 hg6
 go_wp2_with (refine wpList_store_bx (.tmp 3) (.tmp 14) 51 (by with_reducible rfl) rfl rfl rfl hBq (by kernel_rfl) rfl rfl hwF ?_)
 refine bodyPost_bx (s:=3) (t:=51) rfl rfl hBF.out (by kernel_rfl) (by kernel_rfl) rfl ?_
 exact⟨((D1,x2,k1'),(D2,x5,k2'),(D3,x8,k3')),rfl,hT.out,hfin.out⟩
theorem run_field {P:Program} {w:World} {b:Nat} {T:TypeId} {vs:List Value} (hB:Bx w b T vs) (i:Nat) (hi:i<vs.length) {v:Value} (h1:v.oneCell'=true) (t:TypeId) (ht:(P.info? t).map (·.size)=some 1):
 (Instr.storeAt t (.pointer (some ⟨b,i,none⟩)) v).run P w= .ok () (w.setCell ⟨b,i,none⟩ v):=by
 have hc:v.cells=#[v]:=by cases v<;>first|rfl|cases h1
 have hh:(w.cell? ⟨b,i,none⟩).isSome =true:=by rw [hB.cell i (List.getElem?_eq_getElem hi)];rfl
 have:=run_storeCells_cells (P:=P) b i [v] 0 w (fun j hj=>by have:j=0:=by simpa using hj
                                                             subst this;simpa using hh)
  (fun j hj=>by have:j=0:=by simpa using hj
                subst this;simpa using hB.frozen i) (fun x hx=>by simp at hx;subst hx;exact h1)
 cases hq:P.info? t with
 |none=>simp [hq] at ht
 |some q=>
  have hs:q.size=1:=by simpa [hq] using ht
  simp only [Nat.add_zero] at this
  simp only [Instr.storeAt,Instr.sureAddr,Sem.run_bind,Sem.run_pure,Result.andThen_ok]
  simp [storeVar,sizeOf,typeInfo,hq,hc,hs,this,World.setCells]
theorem wpList_store_f {P:Program} {ops:Array Oper} {rest:List Oper} {o:Oper} {a:Act} {w wF:World} {Q:Exit→Act→World→Prop} (p x:Operand) (t:TypeId) (ho:o.op=Op.store t p x) (hg:o.guard=none) (hd:o.dst=none) {b:Nat} {T:TypeId} {vs:List Value} (i:Nat) {v:Value}
 (hp:a.eval p= .pointer (some ⟨b,i,none⟩)) (hx:a.eval x=v) (hB:Bx w b T vs) (hi:i<vs.length) (h1:v.oneCell'=true) (ht:(P.info? t).map (·.size)=some 1) (hF:w.setCell ⟨b,i,none⟩ v=wF)
 (h:wpList P ops Q rest a wF):wpList P ops Q (o::rest) a w:=by
 subst hF
 have h:wpList P ops Q rest (a.put o.dst undef) (w.setCell ⟨b,i,none⟩ v):=by rw [hd];exact h
 refine wpList_plain hg fun _ hK=>?_
 unfold Oper.wp execOp
 simp only [ho,hp,hx,Sem.run_bind,run_field hB i hi h1 t ht,Result.andThen_ok,Sem.run_pure]
 exact hK _ _ h
theorem own_rd {α:Type} {enc:α→List Value} {w:World} {base size n c:Nat} {A:Option Addr} {e:TypeId} {l:List α} (h:w.ownsRow base e size (.slice A n c) n (l.flatMap enc)) (hs: ∀ x,(enc x).length =size) (hl:l.length=n):Rd w size enc A n l:=by
 obtain⟨A',c',he,h1,_⟩:=Rd.of_own hs hl h
 cases he
 exact h1
abbrev Row5:=TypeId×Nat×Value×Nat×List Value
structure NSt (we W0 w:World) (bw:Nat) (vs:List Value) (rows:List Row5) (L:List RE3) (D:List RouteP):Prop where
 bel:Below we.heap.size we w
 but:But W0 w [bw]
 bx:Bx w bw 31 vs
 own: ∀ r∈rows,r.1≠31∧w.ownsRow we.heap.size r.1 r.2.1 r.2.2.1 r.2.2.2.1 r.2.2.2.2
 rt:RowsG (RouT we.heap.size) w L D
section
variable {we W0 w w1:World} {bw:Nat} {vs:List Value} {rows:List Row5} {L:List RE3} {D:List RouteP}
theorem NSt.go (h:NSt we W0 w bw vs rows L D) (hb:Below w.heap.size w w1):NSt we W0 w1 bw vs rows L D:=
 ⟨u_ h.bel hb,h.but.trans (But.of_below hb _),h.bx.below hb,fun r hr=>⟨(h.own r hr).1,own_below (h.own r hr).2 hb⟩,h.rt.up fun e r he=>he.up fun _ _ _ _ _ _ _ _ ho=>own_below ho hb⟩
theorem NSt.set (h:NSt we W0 w bw vs rows L D) (hg:we.heap.size≤bw) (i:Nat) (v:Value):NSt we W0 (w.setCell ⟨bw,i,none⟩ v) bw (vs.set i v) rows L D:=by
 have hb:But w (w.setCell ⟨bw,i,none⟩ v) [bw]:=But.of_set _ _ _ (by simp)
 exact⟨h.bel.trans (hb.below h.bel.size (fun x hx=>by simp only [List.mem_singleton] at hx;subst hx;exact hg)),h.but.trans hb,h.bx.set i v,
  fun r hr=>⟨(h.own r hr).1,own_box (h.own r hr).2 h.bx (h.own r hr).1.symm hb⟩,
  h.rt.up fun e r he=>he.up fun _ e' _ _ _ _ ht _ ho=>own_box ho h.bx (by rcases ht with rfl|rfl<;>decide) hb⟩
theorem NSt.add (h:NSt we W0 w bw vs rows L D) {base size n:Nat} {e:TypeId} {v:Value} {xs:List Value} (ho:w.ownsRow base e size v n xs) (hb:we.heap.size≤base) (he:e≠31):NSt we W0 w bw vs ((e,size,v,n,xs)::rows) L D:=
 ⟨h.bel,h.but,h.bx,fun r hr=>by
   rcases List.mem_cons.1 hr with rfl|hr
   ·exact⟨he,own_base ho hb⟩
   ·exact h.own r hr,h.rt⟩
theorem NSt.addR (h:NSt we W0 w bw vs rows [] []) {base:Nat} (ho:RowsG (RouT base) w L D) (hb:we.heap.size≤base):NSt we W0 w bw vs rows L D:=
 ⟨h.bel,h.but,h.bx,h.own,⟨ho.len,fun k e r h1 h2=>(ho.at_ k e r h1 h2).base hb⟩⟩
end
theorem names_rows {w:World} {L:List REl} {l:List SRouteP} {Q:World→REl→SRouteP→Prop} (h:RowsG (fun w e r=>e.1=r.name∧Q w e r) w L l):L.map (·.1)=l.map (·.name):=by
 refine List.ext_getElem? fun k=>?_
 rw [List.getElem?_map,List.getElem?_map]
 cases hk:l[k]? with
 |none=>
  have:L[k]?=none:=by rw [List.getElem?_eq_none_iff] at hk ⊢;rw [h.len];exact hk
  rw [this];rfl
 |some r=>
  obtain⟨e,he,h1,_⟩:=h.get hk
  rw [he];simp [h1]
theorem range_map {α β:Type} {l:List α} {n:Nat} (hn:l.length=n) (f:α→β) (d:β):(List.range n).map (fun i=>match l[i]? with|some x=>f x|none=>d)=l.map f:=by
 refine List.ext_getElem? fun k=>?_
 rw [List.getElem?_map,List.getElem?_map]
 rcases Nat.lt_or_ge k n with h|h
 ·rw [List.getElem?_range h]
  simp only [Option.map_some,List.getElem?_eq_getElem (by omega:k<l.length)]
 ·rw [List.getElem?_eq_none (by simpa using h),List.getElem?_eq_none (by omega:l.length≤k)];rfl
theorem NC.but {w w':World} {b4 b5 bx bw:Nat} {a0:Option Addr} {n0 c0:Nat} {stops:List Str} (h:NC w b4 b5 bx bw a0 n0 c0 stops) (k:But w w' [bw]) (h4:b4≠bw) (h5:b5≠bw) (hx:bx≠bw) (r:Rd w' 1 strE a0 n0 stops):NC w' b4 b5 bx bw a0 n0 c0 stops:=
 ⟨(k.cell (World.block_lt_of_cell? w _ h.c5) (by simpa using h5)).trans h.c5,(k.cell (World.block_lt_of_cell? w _ h.cx) (by simpa using hx)).trans h.cx,r,(k.cell (World.block_lt_of_cell? w _ h.c4) (by simpa using h4)).trans h.c4,h.m0⟩
def RetNum (X:SheetP) (we:World) (e:Ending) (w':World):Prop:= ∃ V:WV,e= .returned (wVal (numS X) V)∧RW w' (numS X) V∧Below we.heap.size we w'
theorem numbered_any (X:SheetP) (V:SV) (we:World) (hr:RS we X V) (hf:FewS X):Calls Tryz.prog 131 #[sVal X V] we (RetNum X we):=by
 obtain⟨s0,sP,sD,sR,sT,sH,n0,nP,nD,nR,nT,nH,c0,cP,cD,cR,cT,cH⟩:=V
 have L0:Hid (X.stops.length=n0):=hr.r0.len
 have LP':Hid (X.paths.length=nP):=hr.rP.len
 have LD':Hid (X.doors.length=nD):=hr.rD.len
 have LR':Hid (X.routes.length=nR):=hr.rR.len
 have LT':Hid (X.trips.length=nT):=hr.rT.len
 have LH':Hid (X.hazs.length=nH):=hr.rH.len
 have mS:n0≤100000:=by rw [←L0.out];exact hf.s0
 have mP:nP≤100000:=by rw [←LP'.out];exact hf.sP
 have mD:nD≤100000:=by rw [←LD'.out];exact hf.sD
 have mR:nR≤100000:=by rw [←LR'.out];exact hf.sR
 have mT:nT≤100000:=by rw [←LT'.out];exact hf.sT
 have mH:nH≤100000:=by rw [←LH'.out];exact hf.sH
 obtain⟨LR,hRd0,hRw0⟩:=hr.rR.rows
 have hRd:=Lib.hid hRd0
 have hRw:=Lib.hid hRw0
 have hnR:Hid (LR.map (fun p=>p.1)=X.routes.map (fun p=>p.name)):=names_rows hRw0
 have LRl:Hid (LR.length=nR):=hRd0.len
 clear hRd0 hRw0
 have hrH:=Lib.hid hr
 have hsr:=Lib.hid hf.sr
 simp only [sVal]
 clear hr hf
 have c1:Hid (∀ w,Below we.heap.size we w→Calls Tryz.prog 133 #[.slice s0 n0 c0] w fun e w'=> ∃ v,e= .returned v∧w'.ownsRow w.heap.size 9 1 v n0 ((X.stops).flatMap strE)∧Below w.heap.size w w'):=fun w h=>clStr_any s0 n0 c0 X.stops w (hrH.out.r0.below h) (by omega)
 have c2:Hid (∀ w,Below we.heap.size we w→Calls Tryz.prog 172 #[.slice sP nP cP,.func (.func 173) #[] #[]] w fun e w'=> ∃ v,e= .returned v∧w'.ownsRow w.heap.size 9 1 v nP ((X.paths.map (fun p=>p.name)).flatMap strE)∧Below w.heap.size w w'):=fun w h=>allPN_any 173 #[] (enters_of Tryz.func173 (by kernel_rfl) rfl) (fun p=>p.name) sP nP cP X.paths w (hrH.out.rP.below h) (by omega) (fun W x _ _=>pnumb1_any x W)
 have c3:Hid (∀ w,Below we.heap.size we w→Calls Tryz.prog 174 #[.slice sD nD cD,.func (.func 175) #[] #[]] w fun e w'=> ∃ v,e= .returned v∧w'.ownsRow w.heap.size 9 1 v nD ((X.doors.map (fun p=>p.name)).flatMap strE)∧Below w.heap.size w w'):=fun w h=>allDN_any 175 #[] (enters_of Tryz.func175 (by kernel_rfl) rfl) (fun p=>p.name) sD nD cD X.doors w (hrH.out.rD.below h) (by omega) (fun W x _ _=>pnumb2_any x W)
 have c4:Hid (∀ w,Below we.heap.size we w→Calls Tryz.prog 176 #[.slice sR nR cR,.func (.func 177) #[] #[]] w fun e w'=> ∃ v,e= .returned v∧w'.ownsRow w.heap.size 9 1 v nR ((X.routes.map (fun p=>p.name)).flatMap strE)∧Below w.heap.size w w'):=fun w h=>by rw [←hnR.out];exact allRN_any 177 #[] (enters_of Tryz.func177 (by kernel_rfl) rfl) (fun p=>p.1) sR nR cR LR w (hRd.out.below h) (by omega) (fun W x _ _=>pnumb3_any x W)
 have c5:Hid (∀ w,Below we.heap.size we w→Calls Tryz.prog 178 #[.slice sT nT cT,.func (.func 179) #[] #[]] w fun e w'=> ∃ v,e= .returned v∧w'.ownsRow w.heap.size 9 1 v nT ((X.trips.map (fun p=>p.name)).flatMap strE)∧Below w.heap.size w w'):=fun w h=>allTN_any 179 #[] (enters_of Tryz.func179 (by kernel_rfl) rfl) (fun p=>p.name) sT nT cT X.trips w (hrH.out.rT.below h) (by omega) (fun W x _ _=>pnumb4_any x W)
 have c6:Hid (∀ w,Below we.heap.size we w→Calls Tryz.prog 180 #[.slice sH nH cH,.func (.func 181) #[] #[]] w fun e w'=> ∃ v,e= .returned v∧w'.ownsRow w.heap.size 9 1 v nH ((X.hazs.map (fun p=>p.name)).flatMap strE)∧Below w.heap.size w w'):=fun w h=>allHN_any 181 #[] (enters_of Tryz.func181 (by kernel_rfl) rfl) (fun p=>p.name) sH nH cH X.hazs w (hrH.out.rH.below h) (by omega) (fun W x _ _=>pnumb5_any x W)
 obtain⟨w1,w2,b1,b2,hw1,hw2,hbE1,hbE2,hbF2,hb1,hb2,hup,B1,B2,hge1,hge2⟩:=enter2 we 136 31 [.int .i64 X.hz,.slice s0 n0 c0,.slice sP nP cP,.slice sD nD cD,.slice sR nR cR,.slice sT nT cT,.slice sH nH cH] [.int .i64 0,.slice none 0 0,.slice none 0 0,.slice none 0 0,.slice none 0 0,.slice none 0 0,.slice none 0 0,.slice none 0 0,.slice none 0 0,.slice none 0 0,.slice none 0 0,.slice none 0 0]
 obtain⟨wz,bw,hwz,hbwE,hbw,Bw⟩:=box1 w2 31 [.int .i64 0,.slice none 0 0,.slice none 0 0,.slice none 0 0,.slice none 0 0,.slice none 0 0,.slice none 0 0,.slice none 0 0,.slice none 0 0,.slice none 0 0,.slice none 0 0,.slice none 0 0]
 obtain⟨hBy,hby⟩:=Bw.row [.int .i64 X.hz,.slice none 0 0,.slice none 0 0,.slice none 0 0,.slice none 0 0,.slice none 0 0,.slice none 0 0,.slice none 0 0,.slice none 0 0,.slice none 0 0,.slice none 0 0,.slice none 0 0]
 obtain⟨wy,hwy⟩: ∃ q,wz.setRow bw (List.toArray [.int .i64 X.hz,.slice none 0 0,.slice none 0 0,.slice none 0 0,.slice none 0 0,.slice none 0 0,.slice none 0 0,.slice none 0 0,.slice none 0 0,.slice none 0 0,.slice none 0 0,.slice none 0 0])=q:=⟨_,rfl⟩
 rw [hwy] at hBy hby
 have hsy:wy.heap.size=wz.heap.size:=by rw [←hwy];simp [World.setRow]
 have hsz:wz.heap.size=bw+1:=by rw [←hwz,←hbwE];simp
 have hs2:w2.heap.size=b2+1:=by rw [←hw2,←hbF2];simp
 obtain⟨wA,b4,hwA,hb4E,hb4,B4⟩:=box1 wy 213 [.pointer (some ⟨bw,1,none⟩)]
 have hx1:=(((B1.below hbw).keep (hby.keep b1 (B1.below hbw).lt (by simp;omega))).below hb4)
 have hx2:=(((B2.below hbw).keep (hby.keep b2 (B2.below hbw).lt (by simp;omega))).below hb4)
 have hgw:Hid (we.heap.size≤bw):=by show _≤_;omega
 have hbelA:Below we.heap.size we wA:=by
  have h1:=b_ hup hbw
  have h2:=h1.trans (hby.below h1.size (fun x hx=>by simp only [List.mem_singleton] at hx;subst hx;exact hgw.out))
  exact u_ h2 hb4
 have c40:=Lib.hid (B4.cell 0 rfl)
 have p1:=Lib.hid (hx1.cell 1 rfl)
 have p2:=Lib.hid (hx1.cell 2 rfl)
 have p3:=Lib.hid (hx1.cell 3 rfl)
 have p4:=Lib.hid (hx1.cell 4 rfl)
 have p5:=Lib.hid (hx1.cell 5 rfl)
 have p6:=Lib.hid (hx1.cell 6 rfl)
 have l1:b1<wA.heap.size:=hx1.lt
 have l4:b4<wA.heap.size:=B4.lt
 have ne1:Hid (b1≠bw):=by show _≠_;omega
 have ne2:Hid (b2≠bw):=by show _≠_;omega
 have ne4:Hid (b4≠bw):=by show _≠_;omega
 have hN0:Hid (NSt we wA wA bw [.int .i64 X.hz,.slice none 0 0,.slice none 0 0,.slice none 0 0,.slice none 0 0,.slice none 0 0,.slice none 0 0,.slice none 0 0,.slice none 0 0,.slice none 0 0,.slice none 0 0,.slice none 0 0] [] [] []):=⟨hbelA,But.refl _ _,hBy.below hb4,(fun r hr=>by cases hr),RowsG.nil⟩
 have p10:=B1.cell 0 rfl
 have hx1H:=Lib.hid hx1
 have hx2H:=Lib.hid hx2
 clear hs2 hbelA hx1 hx2 B4 hb4 hBy hby hsy hsz hb1 hb2 hbw B1 B2
 go_enter Tryz.func131,Tryz.ntmps131
 go_upto_region 3 with(refine wpList_store_bx (.tmp 3) (.tmp 8) 31 (by with_reducible rfl) rfl rfl rfl Bw (by kernel_rfl) rfl rfl hwy ?_)
 clear hw1 hw2 hwz hbE1 hbE2 hbF2 hbwE hwy hwA hb4E Bw p10
 have c4:=(hN0.out.but.cell (p:=⟨b4,0,none⟩) l4 (by simpa using ne4.out)).trans c40.out
 have p:=(hN0.out.but.cell (p:=⟨b1,1,none⟩) l1 (by simpa using ne1.out)).trans p1.out
 have l4k:=Nat.lt_of_lt_of_le l4 hN0.out.but.size
 have l1k:=Nat.lt_of_lt_of_le l1 hN0.out.but.size
 refine wp_region_lateM wA.heap.size [0,0,0,3,4,4,2] (by kernel_rfl) (by kernel_rfl) (Nat.le_refl _) ?_
 intro C hC
 simp only [pickK,pickT,Nat.reduceLeDiff,Nat.reduceEqDiff, ↓reduceIte]
 repeat(go_big_quiet_step (first
  |(intro _;with_reducible rfl)
  |(intro hc
    have m0:=c_ hc l4k c4
    have m1:=c_ hc l1k p
    simp only [m0,m1,Result.andThen]
    exact⟨trivial,rfl⟩)))
 refine wpQuiet_nil ?_
 clear hC
 intro C' hC'
 refine wpQuiet_nil ?_
 clear hC'
 intro wq hbq
 replace hbq:Below wA.heap.size wA wq:=by rw [hbq];exact⟨rfl,rfl,rfl,Nat.le_refl _,fun _ _=>rfl⟩
 have hq:=Lib.hid hbq
 clear hbq c4 p l4k l1k
 refine wpTail4_one (by decide) ?_
 go_wp2_with fail
 refine(c1.out wq (u_ hN0.out.bel hq.out)).mono ?_;rintro e v0 ⟨v,rfl,ow,hb⟩
 obtain⟨A0,x0,e1,_⟩:=Rd.of_own strE_len L0.out ow
 subst e1
 have hk:=h_ hq hb
 have hM0:=Lib.hid ((hN0.out.go hk.out).add ow (Nat.le_trans hN0.out.bel.size hq.out.size) (by decide))
 clear ow hb
 go_wp2_with fail
 refine⟨fun _=>hk.out,?_⟩
 refine wpTail4_quiet ?_
 intro C' hC'
 repeat(go_big_quiet_step (first|(intro _;with_reducible rfl)))
 refine wpQuiet_nil ?_
 clear hC'
 refine wpTail4_quiet ?_
 intro C' hC'
 repeat(go_big_quiet_step (first|(intro _;with_reducible rfl)))
 refine wpQuiet_nil ?_
 clear hC'
 refine wpTail4_list _ _ _ (by simp) ?_
 simp only [List.map_cons,List.map_nil]
 obtain⟨y0,hwF⟩: ∃ q,v0.setCell ⟨bw,1,none⟩ (.slice A0 n0 x0)=q:=⟨_,rfl⟩
 have hN1:=hM0.out.set hgw.out 1 (.slice A0 n0 x0)
 rw [hwF] at hN1
 replace hN1:=Lib.hid hN1
 refine wpList_store_f (.tmp 15) (.tmp 13) 22 (by with_reducible rfl) rfl rfl 1 rfl rfl hM0.out.bx (by simp) rfl (by kernel_rfl) hwF ?_
 go_upto_region 4 with fail
 clear hwF hM0 hk hq hN0
 replace hN1:Hid (NSt we wA y0 bw [.int .i64 X.hz,.slice A0 n0 x0,.slice none 0 0,.slice none 0 0,.slice none 0 0,.slice none 0 0,.slice none 0 0,.slice none 0 0,.slice none 0 0,.slice none 0 0,.slice none 0 0,.slice none 0 0] [(9,1,.slice A0 n0 x0,n0,(X.stops).flatMap strE)] [] []):=hN1
 have c4:=(hN1.out.but.cell (p:=⟨b4,0,none⟩) l4 (by simpa using ne4.out)).trans c40.out
 have p:=(hN1.out.but.cell (p:=⟨b1,2,none⟩) l1 (by simpa using ne1.out)).trans p2.out
 have l4k:=Nat.lt_of_lt_of_le l4 hN1.out.but.size
 have l1k:=Nat.lt_of_lt_of_le l1 hN1.out.but.size
 refine wp_region_lateM y0.heap.size [0,0,0,3,4,4,2] (by kernel_rfl) (by kernel_rfl) (Nat.le_refl _) ?_
 intro C hC
 simp only [pickK,pickT,Nat.reduceLeDiff,Nat.reduceEqDiff, ↓reduceIte]
 repeat(go_big_quiet_step (first
  |(intro _;with_reducible rfl)
  |(intro hc
    have m0:=c_ hc l4k c4
    have m1:=c_ hc l1k p
    simp only [m0,m1,Result.andThen]
    exact⟨trivial,rfl⟩)))
 refine wpQuiet_nil ?_
 clear hC
 intro C' hC'
 refine wpQuiet_nil ?_
 clear hC'
 intro wq hbq
 replace hbq:Below y0.heap.size y0 wq:=by rw [hbq];exact⟨rfl,rfl,rfl,Nat.le_refl _,fun _ _=>rfl⟩
 have hq:=Lib.hid hbq
 clear hbq c4 p l4k l1k
 refine wpTail4_one (by decide) ?_
 go_wp2_with fail
 refine(c2.out wq (u_ hN1.out.bel hq.out)).mono ?_;rintro e v1 ⟨v,rfl,ow,hb⟩
 obtain⟨A1,x1,e1,_⟩:=Rd.of_own strE_len (by rw [List.length_map];exact LP'.out) ow
 subst e1
 have hk:=h_ hq hb
 have hM1:=Lib.hid ((hN1.out.go hk.out).add ow (Nat.le_trans hN1.out.bel.size hq.out.size) (by decide))
 clear ow hb
 go_wp2_with fail
 refine⟨fun _=>hk.out,?_⟩
 refine wpTail4_quiet ?_
 intro C' hC'
 repeat(go_big_quiet_step (first|(intro _;with_reducible rfl)))
 refine wpQuiet_nil ?_
 clear hC'
 refine wpTail4_quiet ?_
 intro C' hC'
 repeat(go_big_quiet_step (first|(intro _;with_reducible rfl)))
 refine wpQuiet_nil ?_
 clear hC'
 refine wpTail4_list _ _ _ (by simp) ?_
 simp only [List.map_cons,List.map_nil]
 obtain⟨y1,hwF⟩: ∃ q,v1.setCell ⟨bw,2,none⟩ (.slice A1 nP x1)=q:=⟨_,rfl⟩
 have hN2:=hM1.out.set hgw.out 2 (.slice A1 nP x1)
 rw [hwF] at hN2
 replace hN2:=Lib.hid hN2
 refine wpList_store_f (.tmp 21) (.tmp 19) 22 (by with_reducible rfl) rfl rfl 2 rfl rfl hM1.out.bx (by simp) rfl (by kernel_rfl) hwF ?_
 go_upto_region 5 with fail
 clear hwF hM1 hk hq hN1
 replace hN2:Hid (NSt we wA y1 bw [.int .i64 X.hz,.slice A0 n0 x0,.slice A1 nP x1,.slice none 0 0,.slice none 0 0,.slice none 0 0,.slice none 0 0,.slice none 0 0,.slice none 0 0,.slice none 0 0,.slice none 0 0,.slice none 0 0] [(9,1,.slice A1 nP x1,nP,(X.paths.map (fun p=>p.name)).flatMap strE),(9,1,.slice A0 n0 x0,n0,(X.stops).flatMap strE)] [] []):=hN2
 have c4:=(hN2.out.but.cell (p:=⟨b4,0,none⟩) l4 (by simpa using ne4.out)).trans c40.out
 have p:=(hN2.out.but.cell (p:=⟨b1,3,none⟩) l1 (by simpa using ne1.out)).trans p3.out
 have l4k:=Nat.lt_of_lt_of_le l4 hN2.out.but.size
 have l1k:=Nat.lt_of_lt_of_le l1 hN2.out.but.size
 refine wp_region_lateM y1.heap.size [0,0,0,3,4,4,2] (by kernel_rfl) (by kernel_rfl) (Nat.le_refl _) ?_
 intro C hC
 simp only [pickK,pickT,Nat.reduceLeDiff,Nat.reduceEqDiff, ↓reduceIte]
 repeat(go_big_quiet_step (first
  |(intro _;with_reducible rfl)
  |(intro hc
    have m0:=c_ hc l4k c4
    have m1:=c_ hc l1k p
    simp only [m0,m1,Result.andThen]
    exact⟨trivial,rfl⟩)))
 refine wpQuiet_nil ?_
 clear hC
 intro C' hC'
 refine wpQuiet_nil ?_
 clear hC'
 intro wq hbq
 replace hbq:Below y1.heap.size y1 wq:=by rw [hbq];exact⟨rfl,rfl,rfl,Nat.le_refl _,fun _ _=>rfl⟩
 have hq:=Lib.hid hbq
 clear hbq c4 p l4k l1k
 refine wpTail4_one (by decide) ?_
 go_wp2_with fail
 refine(c3.out wq (u_ hN2.out.bel hq.out)).mono ?_;rintro e v2 ⟨v,rfl,ow,hb⟩
 obtain⟨A2,x2,e1,_⟩:=Rd.of_own strE_len (by rw [List.length_map];exact LD'.out) ow
 subst e1
 have hk:=h_ hq hb
 have hM2:=Lib.hid ((hN2.out.go hk.out).add ow (Nat.le_trans hN2.out.bel.size hq.out.size) (by decide))
 clear ow hb
 go_wp2_with fail
 refine⟨fun _=>hk.out,?_⟩
 refine wpTail4_quiet ?_
 intro C' hC'
 repeat(go_big_quiet_step (first|(intro _;with_reducible rfl)))
 refine wpQuiet_nil ?_
 clear hC'
 refine wpTail4_quiet ?_
 intro C' hC'
 repeat(go_big_quiet_step (first|(intro _;with_reducible rfl)))
 refine wpQuiet_nil ?_
 clear hC'
 refine wpTail4_list _ _ _ (by simp) ?_
 simp only [List.map_cons,List.map_nil]
 obtain⟨y2,hwF⟩: ∃ q,v2.setCell ⟨bw,3,none⟩ (.slice A2 nD x2)=q:=⟨_,rfl⟩
 have hN3:=hM2.out.set hgw.out 3 (.slice A2 nD x2)
 rw [hwF] at hN3
 replace hN3:=Lib.hid hN3
 refine wpList_store_f (.tmp 27) (.tmp 25) 22 (by with_reducible rfl) rfl rfl 3 rfl rfl hM2.out.bx (by simp) rfl (by kernel_rfl) hwF ?_
 go_upto_region 6 with fail
 clear hwF hM2 hk hq hN2
 replace hN3:Hid (NSt we wA y2 bw [.int .i64 X.hz,.slice A0 n0 x0,.slice A1 nP x1,.slice A2 nD x2,.slice none 0 0,.slice none 0 0,.slice none 0 0,.slice none 0 0,.slice none 0 0,.slice none 0 0,.slice none 0 0,.slice none 0 0] [(9,1,.slice A2 nD x2,nD,(X.doors.map (fun p=>p.name)).flatMap strE),(9,1,.slice A1 nP x1,nP,(X.paths.map (fun p=>p.name)).flatMap strE),(9,1,.slice A0 n0 x0,n0,(X.stops).flatMap strE)] [] []):=hN3
 have c4:=(hN3.out.but.cell (p:=⟨b4,0,none⟩) l4 (by simpa using ne4.out)).trans c40.out
 have p:=(hN3.out.but.cell (p:=⟨b1,4,none⟩) l1 (by simpa using ne1.out)).trans p4.out
 have l4k:=Nat.lt_of_lt_of_le l4 hN3.out.but.size
 have l1k:=Nat.lt_of_lt_of_le l1 hN3.out.but.size
 refine wp_region_lateM y2.heap.size [0,0,0,3,4,4,2] (by kernel_rfl) (by kernel_rfl) (Nat.le_refl _) ?_
 intro C hC
 simp only [pickK,pickT,Nat.reduceLeDiff,Nat.reduceEqDiff, ↓reduceIte]
 repeat(go_big_quiet_step (first
  |(intro _;with_reducible rfl)
  |(intro hc
    have m0:=c_ hc l4k c4
    have m1:=c_ hc l1k p
    simp only [m0,m1,Result.andThen]
    exact⟨trivial,rfl⟩)))
 refine wpQuiet_nil ?_
 clear hC
 intro C' hC'
 refine wpQuiet_nil ?_
 clear hC'
 intro wq hbq
 replace hbq:Below y2.heap.size y2 wq:=by rw [hbq];exact⟨rfl,rfl,rfl,Nat.le_refl _,fun _ _=>rfl⟩
 have hq:=Lib.hid hbq
 clear hbq c4 p l4k l1k
 refine wpTail4_one (by decide) ?_
 go_wp2_with fail
 refine(c4.out wq (u_ hN3.out.bel hq.out)).mono ?_;rintro e v3 ⟨v,rfl,ow,hb⟩
 obtain⟨A3,x3,e1,_⟩:=Rd.of_own strE_len (by rw [List.length_map];exact LR'.out) ow
 subst e1
 have hk:=h_ hq hb
 have hM3:=Lib.hid ((hN3.out.go hk.out).add ow (Nat.le_trans hN3.out.bel.size hq.out.size) (by decide))
 clear ow hb
 go_wp2_with fail
 refine⟨fun _=>hk.out,?_⟩
 refine wpTail4_quiet ?_
 intro C' hC'
 repeat(go_big_quiet_step (first|(intro _;with_reducible rfl)))
 refine wpQuiet_nil ?_
 clear hC'
 refine wpTail4_quiet ?_
 intro C' hC'
 repeat(go_big_quiet_step (first|(intro _;with_reducible rfl)))
 refine wpQuiet_nil ?_
 clear hC'
 refine wpTail4_list _ _ _ (by simp) ?_
 simp only [List.map_cons,List.map_nil]
 obtain⟨y3,hwF⟩: ∃ q,v3.setCell ⟨bw,4,none⟩ (.slice A3 nR x3)=q:=⟨_,rfl⟩
 have hN4:=hM3.out.set hgw.out 4 (.slice A3 nR x3)
 rw [hwF] at hN4
 replace hN4:=Lib.hid hN4
 refine wpList_store_f (.tmp 33) (.tmp 31) 22 (by with_reducible rfl) rfl rfl 4 rfl rfl hM3.out.bx (by simp) rfl (by kernel_rfl) hwF ?_
 go_upto_region 7 with fail
 clear hwF hM3 hk hq hN3
 replace hN4:Hid (NSt we wA y3 bw [.int .i64 X.hz,.slice A0 n0 x0,.slice A1 nP x1,.slice A2 nD x2,.slice A3 nR x3,.slice none 0 0,.slice none 0 0,.slice none 0 0,.slice none 0 0,.slice none 0 0,.slice none 0 0,.slice none 0 0] [(9,1,.slice A3 nR x3,nR,(X.routes.map (fun p=>p.name)).flatMap strE),(9,1,.slice A2 nD x2,nD,(X.doors.map (fun p=>p.name)).flatMap strE),(9,1,.slice A1 nP x1,nP,(X.paths.map (fun p=>p.name)).flatMap strE),(9,1,.slice A0 n0 x0,n0,(X.stops).flatMap strE)] [] []):=hN4
 have c4:=(hN4.out.but.cell (p:=⟨b4,0,none⟩) l4 (by simpa using ne4.out)).trans c40.out
 have p:=(hN4.out.but.cell (p:=⟨b1,5,none⟩) l1 (by simpa using ne1.out)).trans p5.out
 have l4k:=Nat.lt_of_lt_of_le l4 hN4.out.but.size
 have l1k:=Nat.lt_of_lt_of_le l1 hN4.out.but.size
 refine wp_region_lateM y3.heap.size [0,0,0,3,4,4,2] (by kernel_rfl) (by kernel_rfl) (Nat.le_refl _) ?_
 intro C hC
 simp only [pickK,pickT,Nat.reduceLeDiff,Nat.reduceEqDiff, ↓reduceIte]
 repeat(go_big_quiet_step (first
  |(intro _;with_reducible rfl)
  |(intro hc
    have m0:=c_ hc l4k c4
    have m1:=c_ hc l1k p
    simp only [m0,m1,Result.andThen]
    exact⟨trivial,rfl⟩)))
 refine wpQuiet_nil ?_
 clear hC
 intro C' hC'
 refine wpQuiet_nil ?_
 clear hC'
 intro wq hbq
 replace hbq:Below y3.heap.size y3 wq:=by rw [hbq];exact⟨rfl,rfl,rfl,Nat.le_refl _,fun _ _=>rfl⟩
 have hq:=Lib.hid hbq
 clear hbq c4 p l4k l1k
 refine wpTail4_one (by decide) ?_
 go_wp2_with fail
 refine(c5.out wq (u_ hN4.out.bel hq.out)).mono ?_;rintro e v4 ⟨v,rfl,ow,hb⟩
 obtain⟨A4,x4,e1,_⟩:=Rd.of_own strE_len (by rw [List.length_map];exact LT'.out) ow
 subst e1
 have hk:=h_ hq hb
 have hM4:=Lib.hid ((hN4.out.go hk.out).add ow (Nat.le_trans hN4.out.bel.size hq.out.size) (by decide))
 clear ow hb
 go_wp2_with fail
 refine⟨fun _=>hk.out,?_⟩
 refine wpTail4_quiet ?_
 intro C' hC'
 repeat(go_big_quiet_step (first|(intro _;with_reducible rfl)))
 refine wpQuiet_nil ?_
 clear hC'
 refine wpTail4_quiet ?_
 intro C' hC'
 repeat(go_big_quiet_step (first|(intro _;with_reducible rfl)))
 refine wpQuiet_nil ?_
 clear hC'
 refine wpTail4_list _ _ _ (by simp) ?_
 simp only [List.map_cons,List.map_nil]
 obtain⟨y4,hwF⟩: ∃ q,v4.setCell ⟨bw,5,none⟩ (.slice A4 nT x4)=q:=⟨_,rfl⟩
 have hN5:=hM4.out.set hgw.out 5 (.slice A4 nT x4)
 rw [hwF] at hN5
 replace hN5:=Lib.hid hN5
 refine wpList_store_f (.tmp 39) (.tmp 37) 22 (by with_reducible rfl) rfl rfl 5 rfl rfl hM4.out.bx (by simp) rfl (by kernel_rfl) hwF ?_
 go_upto_region 8 with fail
 clear hwF hM4 hk hq hN4
 replace hN5:Hid (NSt we wA y4 bw [.int .i64 X.hz,.slice A0 n0 x0,.slice A1 nP x1,.slice A2 nD x2,.slice A3 nR x3,.slice A4 nT x4,.slice none 0 0,.slice none 0 0,.slice none 0 0,.slice none 0 0,.slice none 0 0,.slice none 0 0] [(9,1,.slice A4 nT x4,nT,(X.trips.map (fun p=>p.name)).flatMap strE),(9,1,.slice A3 nR x3,nR,(X.routes.map (fun p=>p.name)).flatMap strE),(9,1,.slice A2 nD x2,nD,(X.doors.map (fun p=>p.name)).flatMap strE),(9,1,.slice A1 nP x1,nP,(X.paths.map (fun p=>p.name)).flatMap strE),(9,1,.slice A0 n0 x0,n0,(X.stops).flatMap strE)] [] []):=hN5
 have c4:=(hN5.out.but.cell (p:=⟨b4,0,none⟩) l4 (by simpa using ne4.out)).trans c40.out
 have p:=(hN5.out.but.cell (p:=⟨b1,6,none⟩) l1 (by simpa using ne1.out)).trans p6.out
 have l4k:=Nat.lt_of_lt_of_le l4 hN5.out.but.size
 have l1k:=Nat.lt_of_lt_of_le l1 hN5.out.but.size
 refine wp_region_lateM y4.heap.size [0,0,0,3,4,4,2] (by kernel_rfl) (by kernel_rfl) (Nat.le_refl _) ?_
 intro C hC
 simp only [pickK,pickT,Nat.reduceLeDiff,Nat.reduceEqDiff, ↓reduceIte]
 repeat(go_big_quiet_step (first
  |(intro _;with_reducible rfl)
  |(intro hc
    have m0:=c_ hc l4k c4
    have m1:=c_ hc l1k p
    simp only [m0,m1,Result.andThen]
    exact⟨trivial,rfl⟩)))
 refine wpQuiet_nil ?_
 clear hC
 intro C' hC'
 refine wpQuiet_nil ?_
 clear hC'
 intro wq hbq
 replace hbq:Below y4.heap.size y4 wq:=by rw [hbq];exact⟨rfl,rfl,rfl,Nat.le_refl _,fun _ _=>rfl⟩
 have hq:=Lib.hid hbq
 clear hbq c4 p l4k l1k
 refine wpTail4_one (by decide) ?_
 go_wp2_with fail
 refine(c6.out wq (u_ hN5.out.bel hq.out)).mono ?_;rintro e v5 ⟨v,rfl,ow,hb⟩
 obtain⟨A5,x5,e1,_⟩:=Rd.of_own strE_len (by rw [List.length_map];exact LH'.out) ow
 subst e1
 have hk:=h_ hq hb
 have hM5:=Lib.hid ((hN5.out.go hk.out).add ow (Nat.le_trans hN5.out.bel.size hq.out.size) (by decide))
 clear ow hb
 go_wp2_with fail
 refine⟨fun _=>hk.out,?_⟩
 refine wpTail4_quiet ?_
 intro C' hC'
 repeat(go_big_quiet_step (first|(intro _;with_reducible rfl)))
 refine wpQuiet_nil ?_
 clear hC'
 refine wpTail4_quiet ?_
 intro C' hC'
 repeat(go_big_quiet_step (first|(intro _;with_reducible rfl)))
 refine wpQuiet_nil ?_
 clear hC'
 refine wpTail4_list _ _ _ (by simp) ?_
 simp only [List.map_cons,List.map_nil]
 obtain⟨y5,hwF⟩: ∃ q,v5.setCell ⟨bw,6,none⟩ (.slice A5 nH x5)=q:=⟨_,rfl⟩
 have hN6:=hM5.out.set hgw.out 6 (.slice A5 nH x5)
 rw [hwF] at hN6
 replace hN6:=Lib.hid hN6
 refine wpList_store_f (.tmp 45) (.tmp 43) 22 (by with_reducible rfl) rfl rfl 6 rfl rfl hM5.out.bx (by simp) rfl (by kernel_rfl) hwF ?_
 go_upto_region 9 with fail
 clear hwF hM5 hk hq hN5
 replace hN6:Hid (NSt we wA y5 bw [.int .i64 X.hz,.slice A0 n0 x0,.slice A1 nP x1,.slice A2 nD x2,.slice A3 nR x3,.slice A4 nT x4,.slice A5 nH x5,.slice none 0 0,.slice none 0 0,.slice none 0 0,.slice none 0 0,.slice none 0 0] [(9,1,.slice A5 nH x5,nH,(X.hazs.map (fun p=>p.name)).flatMap strE),(9,1,.slice A4 nT x4,nT,(X.trips.map (fun p=>p.name)).flatMap strE),(9,1,.slice A3 nR x3,nR,(X.routes.map (fun p=>p.name)).flatMap strE),(9,1,.slice A2 nD x2,nD,(X.doors.map (fun p=>p.name)).flatMap strE),(9,1,.slice A1 nP x1,nP,(X.paths.map (fun p=>p.name)).flatMap strE),(9,1,.slice A0 n0 x0,n0,(X.stops).flatMap strE)] [] []):=hN6
 obtain⟨z0,b5,hz0,hb5E,hb5,B5⟩:=box1 y5 225 [.func (.func 182) #[] #[.pointer (some ⟨b1,0,none⟩)]]
 have hkz:Hid (But wA z0 [bw]):=hN6.out.but.trans (But.of_below hb5 _)
 have ne5:Hid (b5≠bw):=by have:=hN6.out.bx.lt;show _≠_;omega
 have hbz:=u_ hN6.out.bel hb5
 have hNC:Hid (NC z0 b4 b5 b1 bw s0 n0 c0 X.stops):=⟨B5.cell 0 rfl,(hkz.out.cell (p:=⟨b1,1,none⟩) l1 (by simpa using ne1.out)).trans p1.out,hrH.out.r0.below hbz,(hkz.out.cell (p:=⟨b4,0,none⟩) l4 (by simpa using ne4.out)).trans c40.out,by omega⟩
 have hx2z:=Lib.hid (hx2H.out.keep (hkz.out.keep b2 hx2H.out.lt (by simpa using ne2.out)))
 have l1z:=Nat.lt_of_lt_of_le l1 hkz.out.size
 have l5z:=B5.lt
 have q2:=Lib.hid ((hkz.out.cell (p:=⟨b1,2,none⟩) l1 (by simpa using ne1.out)).trans p2.out)
 have q3:=Lib.hid ((hkz.out.cell (p:=⟨b1,3,none⟩) l1 (by simpa using ne1.out)).trans p3.out)
 have q4:=Lib.hid ((hkz.out.cell (p:=⟨b1,4,none⟩) l1 (by simpa using ne1.out)).trans p4.out)
 have q5:=Lib.hid ((hkz.out.cell (p:=⟨b1,5,none⟩) l1 (by simpa using ne1.out)).trans p5.out)
 have q6:=Lib.hid ((hkz.out.cell (p:=⟨b1,6,none⟩) l1 (by simpa using ne1.out)).trans p6.out)
 have hO0:Hid (NSt we z0 z0 bw [.int .i64 X.hz,.slice A0 n0 x0,.slice A1 nP x1,.slice A2 nD x2,.slice A3 nR x3,.slice A4 nT x4,.slice A5 nH x5,.slice none 0 0,.slice none 0 0,.slice none 0 0,.slice none 0 0,.slice none 0 0] [(9,1,.slice A5 nH x5,nH,(X.hazs.map (fun p=>p.name)).flatMap strE),(9,1,.slice A4 nT x4,nT,(X.trips.map (fun p=>p.name)).flatMap strE),(9,1,.slice A3 nR x3,nR,(X.routes.map (fun p=>p.name)).flatMap strE),(9,1,.slice A2 nD x2,nD,(X.doors.map (fun p=>p.name)).flatMap strE),(9,1,.slice A1 nP x1,nP,(X.paths.map (fun p=>p.name)).flatMap strE),(9,1,.slice A0 n0 x0,n0,(X.stops).flatMap strE)] [] []):=by
  have h:=hN6.out.go hb5
  exact⟨h.bel,But.refl _ _,h.bx,h.own,h.rt⟩
 have dP:Hid (∀ w,Below we.heap.size we w→NC w b4 b5 b1 bw s0 n0 c0 X.stops→Calls Tryz.prog 184 #[.slice sP nP cP,.func (.func 185) #[] #[.pointer (some ⟨b5,0,none⟩)]] w fun e w'=> ∃ v,e= .returned v∧w'.ownsRow w.heap.size 99 3 v nP ((X.paths.map (numP X)).flatMap tripE)∧Below w.heap.size w w'):=fun w h hc=>allP_any 185 #[.pointer (some ⟨b5,0,none⟩)] (enters_of Tryz.func185 (by kernel_rfl) rfl) (numP X) sP nP cP X.paths w (hrH.out.rP.below h) (by omega) (fun W x hb _=>pnumb7_any x b4 b5 b1 bw s0 n0 c0 X.stops W (hc.below hb))
 have dD:Hid (∀ w,Below we.heap.size we w→NC w b4 b5 b1 bw s0 n0 c0 X.stops→Calls Tryz.prog 186 #[.slice sD nD cD,.func (.func 187) #[] #[.pointer (some ⟨b5,0,none⟩)]] w fun e w'=> ∃ v,e= .returned v∧w'.ownsRow w.heap.size 104 6 v nD ((X.doors.map (numD X)).flatMap doorE)∧Below w.heap.size w w'):=fun w h hc=>allD_any 187 #[.pointer (some ⟨b5,0,none⟩)] (enters_of Tryz.func187 (by kernel_rfl) rfl) (numD X) sD nD cD X.doors w (hrH.out.rD.below h) (by omega) (fun W x hb _=>pnumb8_any x b4 b5 b1 bw s0 n0 c0 X.stops W (hc.below hb))
 have dR:Hid (∀ w,Below we.heap.size we w→NC w b4 b5 b1 bw s0 n0 c0 X.stops→Calls Tryz.prog 188 #[.slice sR nR cR,.func (.func 189) #[] #[.pointer (some ⟨b5,0,none⟩)]] w fun e w'=> ∃ v,e= .returned v∧(∃ L:List RE3,w'.ownsRow w.heap.size 51 3 v nR (L.flatMap re3E)∧RowsG (RouT w.heap.size) w' L (X.routes.map (numR X)))∧Below w.heap.size w w'):=fun w h hc=>by
  rw [←range_map LR'.out (numR X) (⟨[],[],[]⟩:RouteP)]
  refine allR_any 189 #[.pointer (some ⟨b5,0,none⟩)] (enters_of Tryz.func189 (by kernel_rfl) rfl) _ sR nR cR LR w (hRd.out.below h) (by omega) (fun W i x hb hx=>?_)
  have hi:i<X.routes.length:=by have h1:=(List.getElem?_eq_some_iff.1 hx).1;have h2:=LRl.out;have h3:=LR'.out;omega
  obtain⟨r,hr⟩: ∃ r,X.routes[i]?=some r:=⟨_,List.getElem?_eq_getElem hi⟩
  obtain⟨_,h1,h2,h3⟩:=hRw.out.at_ i x r hx hr
  have hs:=hsr.out r (List.mem_of_getElem? hr)
  have hbW:=u_ h hb
  simp only [hr]
  have e1:=h1.len
  have e2:=h2.len
  have e3:=h3.len
  exact pnumb9_any x r b4 b5 b1 bw s0 n0 c0 X.stops W (hc.below hb) (h1.below hbW) (h2.below hbW) (h3.below hbW) (by omega) (by omega) (by omega)
 have dT:Hid (∀ w,Below we.heap.size we w→NC w b4 b5 b1 bw s0 n0 c0 X.stops→ ∀ A c,w.cell? ⟨bw,4,none⟩=some (.slice A nR c)→Rd w 1 strE A nR (X.routes.map (fun p=>p.name))→Calls Tryz.prog 191 #[.slice sT nT cT,.func (.func 192) #[] #[.pointer (some ⟨b4,0,none⟩)]] w fun e w'=> ∃ v,e= .returned v∧w'.ownsRow w.heap.size 53 4 v nT ((X.trips.map (numT X)).flatMap tripP)∧Below w.heap.size w w'):=fun w h hc A c h3 h4=>allT_any 192 #[.pointer (some ⟨b4,0,none⟩)] (enters_of Tryz.func192 (by kernel_rfl) rfl) (numT X) sT nT cT X.trips w (hrH.out.rT.below h) (by omega) (fun W x hb _=>pnumb10_any x b4 b5 b1 bw s0 n0 c0 X.stops W (hc.below hb) A nR c _ (up_cell hb h3) (h4.below hb) (by omega))
 have dH:Hid (∀ w,Below we.heap.size we w→NC w b4 b5 b1 bw s0 n0 c0 X.stops→ ∀ A c,w.cell? ⟨bw,2,none⟩=some (.slice A nP c)→Rd w 1 strE A nP (X.paths.map (fun p=>p.name))→Calls Tryz.prog 193 #[.slice sH nH cH,.func (.func 194) #[] #[.pointer (some ⟨b5,0,none⟩),.pointer (some ⟨b4,0,none⟩)]] w fun e w'=> ∃ v,e= .returned v∧w'.ownsRow w.heap.size 108 5 v nH ((X.hazs.map (numH X)).flatMap hazE)∧Below w.heap.size w w'):=fun w h hc A c h3 h4=>allH_any 194 #[.pointer (some ⟨b5,0,none⟩),.pointer (some ⟨b4,0,none⟩)] (enters_of Tryz.func194 (by kernel_rfl) rfl) (numH X) sH nH cH X.hazs w (hrH.out.rH.below h) (by omega) (fun W x hb _=>pnumb11_any x b4 b5 b1 bw s0 n0 c0 X.stops W (hc.below hb) A nP c _ (up_cell hb h3) (h4.below hb) (by omega))
 clear B5 hb5 hbz
 have g0:=(hO0.out.but.cell (p:=⟨b1,2,none⟩) l1z (by simpa using ne1.out)).trans q2.out
 have hc0:=Lib.hid (hNC.out.but hO0.out.but ne4.out ne5.out ne1.out (hrH.out.r0.below hO0.out.bel))
 go_wp2_with fail
 clear hz0 hb5E
 refine(dP.out z0 hO0.out.bel hc0.out).mono ?_;rintro e t0 ⟨v,rfl,ow,hb⟩
 obtain⟨EP,kP,e1,_⟩:=Rd.of_own (show ∀ x,(tripE x).length =3 from fun _=>rfl) (show(X.paths.map (numP X)).length =nP by rw [List.length_map];exact LP'.out) ow
 subst e1
 have hP0:=Lib.hid ((hO0.out.go hb).add ow hO0.out.bel.size (by decide))
 clear ow hb g0 hc0
 obtain⟨u_0,hwF⟩: ∃ q,t0.setCell ⟨bw,7,none⟩ (.slice EP nP kP)=q:=⟨_,rfl⟩
 have hO1:=hP0.out.set hgw.out 7 (.slice EP nP kP)
 rw [hwF] at hO1
 replace hO1:=Lib.hid hO1
 have f1:=hP0.out.bx.cell 7 rfl
 have f2:=hP0.out.bx.frozen 7
 replace hO1:Hid (NSt we z0 u_0 bw [.int .i64 X.hz,.slice A0 n0 x0,.slice A1 nP x1,.slice A2 nD x2,.slice A3 nR x3,.slice A4 nT x4,.slice A5 nH x5,.slice EP nP kP,.slice none 0 0,.slice none 0 0,.slice none 0 0,.slice none 0 0] [(99,3,.slice EP nP kP,nP,(X.paths.map (numP X)).flatMap tripE),(9,1,.slice A5 nH x5,nH,(X.hazs.map (fun p=>p.name)).flatMap strE),(9,1,.slice A4 nT x4,nT,(X.trips.map (fun p=>p.name)).flatMap strE),(9,1,.slice A3 nR x3,nR,(X.routes.map (fun p=>p.name)).flatMap strE),(9,1,.slice A2 nD x2,nD,(X.doors.map (fun p=>p.name)).flatMap strE),(9,1,.slice A1 nP x1,nP,(X.paths.map (fun p=>p.name)).flatMap strE),(9,1,.slice A0 n0 x0,n0,(X.stops).flatMap strE)] [] []):=hO1
 go_upto_region 11 with fail
 clear hwF f1 f2 hP0 hO0
 have g1:=(hO1.out.but.cell (p:=⟨b1,3,none⟩) l1z (by simpa using ne1.out)).trans q3.out
 have hc1:=Lib.hid (hNC.out.but hO1.out.but ne4.out ne5.out ne1.out (hrH.out.r0.below hO1.out.bel))
 go_wp2_with fail
 refine(dD.out u_0 hO1.out.bel hc1.out).mono ?_;rintro e t1 ⟨v,rfl,ow,hb⟩
 obtain⟨ED,kD,e1,_⟩:=Rd.of_own doorE_len (show(X.doors.map (numD X)).length =nD by rw [List.length_map];exact LD'.out) ow
 subst e1
 have hP1:=Lib.hid ((hO1.out.go hb).add ow hO1.out.bel.size (by decide))
 clear ow hb g1 hc1
 obtain⟨u_1,hwF⟩: ∃ q,t1.setCell ⟨bw,8,none⟩ (.slice ED nD kD)=q:=⟨_,rfl⟩
 have hO2:=hP1.out.set hgw.out 8 (.slice ED nD kD)
 rw [hwF] at hO2
 replace hO2:=Lib.hid hO2
 have f1:=hP1.out.bx.cell 8 rfl
 have f2:=hP1.out.bx.frozen 8
 replace hO2:Hid (NSt we z0 u_1 bw [.int .i64 X.hz,.slice A0 n0 x0,.slice A1 nP x1,.slice A2 nD x2,.slice A3 nR x3,.slice A4 nT x4,.slice A5 nH x5,.slice EP nP kP,.slice ED nD kD,.slice none 0 0,.slice none 0 0,.slice none 0 0] [(104,6,.slice ED nD kD,nD,(X.doors.map (numD X)).flatMap doorE),(99,3,.slice EP nP kP,nP,(X.paths.map (numP X)).flatMap tripE),(9,1,.slice A5 nH x5,nH,(X.hazs.map (fun p=>p.name)).flatMap strE),(9,1,.slice A4 nT x4,nT,(X.trips.map (fun p=>p.name)).flatMap strE),(9,1,.slice A3 nR x3,nR,(X.routes.map (fun p=>p.name)).flatMap strE),(9,1,.slice A2 nD x2,nD,(X.doors.map (fun p=>p.name)).flatMap strE),(9,1,.slice A1 nP x1,nP,(X.paths.map (fun p=>p.name)).flatMap strE),(9,1,.slice A0 n0 x0,n0,(X.stops).flatMap strE)] [] []):=hO2
 go_upto_region 12 with fail
 clear hwF f1 f2 hP1 hO1
 have g2:=(hO2.out.but.cell (p:=⟨b1,4,none⟩) l1z (by simpa using ne1.out)).trans q4.out
 have hc2:=Lib.hid (hNC.out.but hO2.out.but ne4.out ne5.out ne1.out (hrH.out.r0.below hO2.out.bel))
 go_wp2_with fail
 refine(dR.out u_1 hO2.out.bel hc2.out).mono ?_;rintro e t2 ⟨v,rfl,⟨LE,ow,hRE⟩,hb⟩
 obtain⟨ER,kR,e1,hre⟩:=Rd.of_own re3E_len (show LE.length=nR by rw [hRE.len,List.length_map];exact LR'.out) ow
 subst e1
 have hP2:=Lib.hid (((hO2.out.go hb).add ow hO2.out.bel.size (by decide)).addR hRE hO2.out.bel.size)
 clear ow hb g2 hc2
 obtain⟨u_2,hwF⟩: ∃ q,t2.setCell ⟨bw,9,none⟩ (.slice ER nR kR)=q:=⟨_,rfl⟩
 have hO3:=hP2.out.set hgw.out 9 (.slice ER nR kR)
 rw [hwF] at hO3
 replace hO3:=Lib.hid hO3
 have f1:=hP2.out.bx.cell 9 rfl
 have f2:=hP2.out.bx.frozen 9
 replace hO3:Hid (NSt we z0 u_2 bw [.int .i64 X.hz,.slice A0 n0 x0,.slice A1 nP x1,.slice A2 nD x2,.slice A3 nR x3,.slice A4 nT x4,.slice A5 nH x5,.slice EP nP kP,.slice ED nD kD,.slice ER nR kR,.slice none 0 0,.slice none 0 0] [(51,3,.slice ER nR kR,nR,LE.flatMap re3E),(104,6,.slice ED nD kD,nD,(X.doors.map (numD X)).flatMap doorE),(99,3,.slice EP nP kP,nP,(X.paths.map (numP X)).flatMap tripE),(9,1,.slice A5 nH x5,nH,(X.hazs.map (fun p=>p.name)).flatMap strE),(9,1,.slice A4 nT x4,nT,(X.trips.map (fun p=>p.name)).flatMap strE),(9,1,.slice A3 nR x3,nR,(X.routes.map (fun p=>p.name)).flatMap strE),(9,1,.slice A2 nD x2,nD,(X.doors.map (fun p=>p.name)).flatMap strE),(9,1,.slice A1 nP x1,nP,(X.paths.map (fun p=>p.name)).flatMap strE),(9,1,.slice A0 n0 x0,n0,(X.stops).flatMap strE)] LE (X.routes.map (numR X))):=hO3
 go_upto_region 13 with fail
 clear hwF f1 f2 hP2 hO2
 have g3:=(hO3.out.but.cell (p:=⟨b1,5,none⟩) l1z (by simpa using ne1.out)).trans q5.out
 have hc3:=Lib.hid (hNC.out.but hO3.out.but ne4.out ne5.out ne1.out (hrH.out.r0.below hO3.out.bel))
 go_wp2_with fail
 refine(dT.out u_2 hO3.out.bel hc3.out A3 x3 (hO3.out.bx.cell 4 rfl) (own_rd (hO3.out.own (9,1,.slice A3 nR x3,nR,(X.routes.map (fun p=>p.name)).flatMap strE) (by simp)).2 strE_len (by rw [List.length_map];exact LR'.out))).mono ?_;rintro e t3 ⟨v,rfl,ow,hb⟩
 obtain⟨ET,kT,e1,_⟩:=Rd.of_own tripP_len (show(X.trips.map (numT X)).length =nT by rw [List.length_map];exact LT'.out) ow
 subst e1
 have hP3:=Lib.hid ((hO3.out.go hb).add ow hO3.out.bel.size (by decide))
 clear ow hb g3 hc3
 obtain⟨u_3,hwF⟩: ∃ q,t3.setCell ⟨bw,10,none⟩ (.slice ET nT kT)=q:=⟨_,rfl⟩
 have hO4:=hP3.out.set hgw.out 10 (.slice ET nT kT)
 rw [hwF] at hO4
 replace hO4:=Lib.hid hO4
 have f1:=hP3.out.bx.cell 10 rfl
 have f2:=hP3.out.bx.frozen 10
 replace hO4:Hid (NSt we z0 u_3 bw [.int .i64 X.hz,.slice A0 n0 x0,.slice A1 nP x1,.slice A2 nD x2,.slice A3 nR x3,.slice A4 nT x4,.slice A5 nH x5,.slice EP nP kP,.slice ED nD kD,.slice ER nR kR,.slice ET nT kT,.slice none 0 0] [(53,4,.slice ET nT kT,nT,(X.trips.map (numT X)).flatMap tripP),(51,3,.slice ER nR kR,nR,LE.flatMap re3E),(104,6,.slice ED nD kD,nD,(X.doors.map (numD X)).flatMap doorE),(99,3,.slice EP nP kP,nP,(X.paths.map (numP X)).flatMap tripE),(9,1,.slice A5 nH x5,nH,(X.hazs.map (fun p=>p.name)).flatMap strE),(9,1,.slice A4 nT x4,nT,(X.trips.map (fun p=>p.name)).flatMap strE),(9,1,.slice A3 nR x3,nR,(X.routes.map (fun p=>p.name)).flatMap strE),(9,1,.slice A2 nD x2,nD,(X.doors.map (fun p=>p.name)).flatMap strE),(9,1,.slice A1 nP x1,nP,(X.paths.map (fun p=>p.name)).flatMap strE),(9,1,.slice A0 n0 x0,n0,(X.stops).flatMap strE)] LE (X.routes.map (numR X))):=hO4
 go_upto_region 14 with fail
 clear hwF f1 f2 hP3 hO3
 have g4:=(hO4.out.but.cell (p:=⟨b1,6,none⟩) l1z (by simpa using ne1.out)).trans q6.out
 have hc4:=Lib.hid (hNC.out.but hO4.out.but ne4.out ne5.out ne1.out (hrH.out.r0.below hO4.out.bel))
 go_wp2_with fail
 refine(dH.out u_3 hO4.out.bel hc4.out A1 x1 (hO4.out.bx.cell 2 rfl) (own_rd (hO4.out.own (9,1,.slice A1 nP x1,nP,(X.paths.map (fun p=>p.name)).flatMap strE) (by simp)).2 strE_len (by rw [List.length_map];exact LP'.out))).mono ?_;rintro e t4 ⟨v,rfl,ow,hb⟩
 obtain⟨EH,kH,e1,_⟩:=Rd.of_own hazE_len (show(X.hazs.map (numH X)).length =nH by rw [List.length_map];exact LH'.out) ow
 subst e1
 have hP4:=Lib.hid ((hO4.out.go hb).add ow hO4.out.bel.size (by decide))
 clear ow hb g4 hc4
 obtain⟨u_4,hwF⟩: ∃ q,t4.setCell ⟨bw,11,none⟩ (.slice EH nH kH)=q:=⟨_,rfl⟩
 have hO5:=hP4.out.set hgw.out 11 (.slice EH nH kH)
 rw [hwF] at hO5
 replace hO5:=Lib.hid hO5
 have f1:=hP4.out.bx.cell 11 rfl
 have f2:=hP4.out.bx.frozen 11
 replace hO5:Hid (NSt we z0 u_4 bw [.int .i64 X.hz,.slice A0 n0 x0,.slice A1 nP x1,.slice A2 nD x2,.slice A3 nR x3,.slice A4 nT x4,.slice A5 nH x5,.slice EP nP kP,.slice ED nD kD,.slice ER nR kR,.slice ET nT kT,.slice EH nH kH] [(108,5,.slice EH nH kH,nH,(X.hazs.map (numH X)).flatMap hazE),(53,4,.slice ET nT kT,nT,(X.trips.map (numT X)).flatMap tripP),(51,3,.slice ER nR kR,nR,LE.flatMap re3E),(104,6,.slice ED nD kD,nD,(X.doors.map (numD X)).flatMap doorE),(99,3,.slice EP nP kP,nP,(X.paths.map (numP X)).flatMap tripE),(9,1,.slice A5 nH x5,nH,(X.hazs.map (fun p=>p.name)).flatMap strE),(9,1,.slice A4 nT x4,nT,(X.trips.map (fun p=>p.name)).flatMap strE),(9,1,.slice A3 nR x3,nR,(X.routes.map (fun p=>p.name)).flatMap strE),(9,1,.slice A2 nD x2,nD,(X.doors.map (fun p=>p.name)).flatMap strE),(9,1,.slice A1 nP x1,nP,(X.paths.map (fun p=>p.name)).flatMap strE),(9,1,.slice A0 n0 x0,n0,(X.stops).flatMap strE)] LE (X.routes.map (numR X))):=hO5
 go_upto_region 15 with fail
 clear hwF f1 f2 hP4 hO4
 have hB2:=hx2z.out.keep (hO5.out.but.keep b2 hx2z.out.lt (by simpa using ne2.out))
 obtain⟨hBF,hbF⟩:=hB2.row [.int .i64 X.hz,.slice A0 n0 x0,.slice A1 nP x1,.slice A2 nD x2,.slice A3 nR x3,.slice A4 nT x4,.slice A5 nH x5,.slice EP nP kP,.slice ED nD kD,.slice ER nR kR,.slice ET nT kT,.slice EH nH kH]
 obtain⟨wF,hwF⟩: ∃ q,u_4.setRow b2 (List.toArray [.int .i64 X.hz,.slice A0 n0 x0,.slice A1 nP x1,.slice A2 nD x2,.slice A3 nR x3,.slice A4 nT x4,.slice A5 nH x5,.slice EP nP kP,.slice ED nD kD,.slice ER nR kR,.slice ET nT kT,.slice EH nH kH])=q:=⟨_,rfl⟩
 rw [hwF] at hBF hbF
 have hfin:Hid (Below we.heap.size we wF):=hO5.out.bel.trans (hbF.below hO5.out.bel.size (fun x hx=>by simp only [List.mem_singleton] at hx;subst hx;exact hge2.out))
 have hrw:Hid (RW wF (numS X) ⟨A0,A1,A2,A3,A4,A5,EP,ED,ER,ET,EH,n0,nP,nD,nR,nT,nH,nP,nD,nR,nT,nH,x0,x1,x2,x3,x4,x5,kP,kD,kR,kT,kH⟩):=by
  have r0:=own_rd (own_box (hO5.out.own (9,1,.slice A0 n0 x0,n0,(X.stops).flatMap strE) (by simp)).2 hB2 (hO5.out.own (9,1,.slice A0 n0 x0,n0,(X.stops).flatMap strE) (by simp)).1.symm hbF) strE_len L0.out
  have r1:=own_rd (own_box (hO5.out.own (9,1,.slice A1 nP x1,nP,(X.paths.map (fun p=>p.name)).flatMap strE) (by simp)).2 hB2 (hO5.out.own (9,1,.slice A1 nP x1,nP,(X.paths.map (fun p=>p.name)).flatMap strE) (by simp)).1.symm hbF) strE_len (by rw [List.length_map];exact LP'.out)
  have r2:=own_rd (own_box (hO5.out.own (9,1,.slice A2 nD x2,nD,(X.doors.map (fun p=>p.name)).flatMap strE) (by simp)).2 hB2 (hO5.out.own (9,1,.slice A2 nD x2,nD,(X.doors.map (fun p=>p.name)).flatMap strE) (by simp)).1.symm hbF) strE_len (by rw [List.length_map];exact LD'.out)
  have r3:=own_rd (own_box (hO5.out.own (9,1,.slice A3 nR x3,nR,(X.routes.map (fun p=>p.name)).flatMap strE) (by simp)).2 hB2 (hO5.out.own (9,1,.slice A3 nR x3,nR,(X.routes.map (fun p=>p.name)).flatMap strE) (by simp)).1.symm hbF) strE_len (by rw [List.length_map];exact LR'.out)
  have r4:=own_rd (own_box (hO5.out.own (9,1,.slice A4 nT x4,nT,(X.trips.map (fun p=>p.name)).flatMap strE) (by simp)).2 hB2 (hO5.out.own (9,1,.slice A4 nT x4,nT,(X.trips.map (fun p=>p.name)).flatMap strE) (by simp)).1.symm hbF) strE_len (by rw [List.length_map];exact LT'.out)
  have r5:=own_rd (own_box (hO5.out.own (9,1,.slice A5 nH x5,nH,(X.hazs.map (fun p=>p.name)).flatMap strE) (by simp)).2 hB2 (hO5.out.own (9,1,.slice A5 nH x5,nH,(X.hazs.map (fun p=>p.name)).flatMap strE) (by simp)).1.symm hbF) strE_len (by rw [List.length_map];exact LH'.out)
  have r6:=own_rd (own_box (hO5.out.own (99,3,.slice EP nP kP,nP,(X.paths.map (numP X)).flatMap tripE) (by simp)).2 hB2 (hO5.out.own (99,3,.slice EP nP kP,nP,(X.paths.map (numP X)).flatMap tripE) (by simp)).1.symm hbF) (show ∀ x,(tripE x).length =3 from fun _=>rfl) (by rw [List.length_map];exact LP'.out)
  have r7:=own_rd (own_box (hO5.out.own (104,6,.slice ED nD kD,nD,(X.doors.map (numD X)).flatMap doorE) (by simp)).2 hB2 (hO5.out.own (104,6,.slice ED nD kD,nD,(X.doors.map (numD X)).flatMap doorE) (by simp)).1.symm hbF) doorE_len (by rw [List.length_map];exact LD'.out)
  have r8:=RowsG.routes (hO5.out.rt.up fun e r he=>he.up fun _ e' _ _ _ _ ht _ ho=>own_box ho hB2 (by rcases ht with rfl|rfl<;>decide) hbF) (own_rd (own_box (hO5.out.own (51,3,.slice ER nR kR,nR,LE.flatMap re3E) (by simp)).2 hB2 (hO5.out.own (51,3,.slice ER nR kR,nR,LE.flatMap re3E) (by simp)).1.symm hbF) re3E_len (by rw [hO5.out.rt.len,List.length_map];exact LR'.out))
  have r9:=own_rd (own_box (hO5.out.own (53,4,.slice ET nT kT,nT,(X.trips.map (numT X)).flatMap tripP) (by simp)).2 hB2 (hO5.out.own (53,4,.slice ET nT kT,nT,(X.trips.map (numT X)).flatMap tripP) (by simp)).1.symm hbF) tripP_len (by rw [List.length_map];exact LT'.out)
  have r10:=own_rd (own_box (hO5.out.own (108,5,.slice EH nH kH,nH,(X.hazs.map (numH X)).flatMap hazE) (by simp)).2 hB2 (hO5.out.own (108,5,.slice EH nH kH,nH,(X.hazs.map (numH X)).flatMap hazE) (by simp)).1.symm hbF) hazE_len (by rw [List.length_map];exact LH'.out)
  exact⟨r0,r1,r2,r3,r4,r5,r6,r7,r8,r9,r10⟩
 have hBq:=Lib.hid hB2
 have hbx:=Lib.hid hO5.out.bx
 replace hBF:=Lib.hid hBF
 clear hB2 hbF
 refine wp_region_lit ?_
 refine wpList_load_bx (.tmp 3) 31 rfl rfl rfl hbx.out (by kernel_rfl) (by kernel_rfl) ?_
 refine wpList_store_bx (.tmp 2) (.tmp 72) 31 rfl rfl rfl rfl hBq.out (by kernel_rfl) rfl rfl hwF ?_
 refine wpList_nil ?_
 clear hwF hbx
 rename_i hKx
 refine hKx _ _ (wp_ret ?_)
 refine bodyPost_bx (s:=2) (t:=31) rfl rfl hBF.out (by kernel_rfl) (by kernel_rfl) rfl ?_
 exact⟨_,by simp only [wVal,numS],hrw.out,hfin.out⟩
end Go.Proofs.YtechdefolfboeaaGreatDoor
