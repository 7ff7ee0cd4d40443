/- Texts of one chain, merged. -/
import Derived.Test.YtechdefolfboeaaGreatDoorNb22
namespace Go.Proofs.YtechdefolfboeaaGreatDoor
open Go.RowKit B K
set_option linter.unusedVariables false
set_option linter.unusedSimpArgs false
set_option maxRecDepth 100000
set_option maxHeartbeats 2000000
theorem pnumb1_any (p:SPathP) (we:World):Calls Tryz.prog 173 #[.agg (spathE p).toArray] we fun e w'=>e= .returned (.string p.name)∧Below we.heap.size we w':=by
 obtain⟨x1,x2,x3,x4⟩:=p
 simp only [spathE]
 obtain⟨wa,ba,hwa,hbaE,hbwa,Bwa⟩:=box1 we 171 [.string x1,.string x2,.string x3,.int .i64 x4]
 have q0:=Bwa.cell 0 rfl
 have hbH:=Lib.hid hbwa
 clear Bwa hbwa
 go_enter Tryz.func173,Tryz.ntmps173
 go_wp2_with fail
 clear hwa hbaE
 go_returns
 exact⟨rfl,hbH.out⟩
theorem pnumb2_any (p:SDoorP) (we:World):Calls Tryz.prog 175 #[.agg (sdoorE p).toArray] we fun e w'=>e= .returned (.string p.name)∧Below we.heap.size we w':=by
 obtain⟨x1,x2,x3,x4,x5,x6,x7⟩:=p
 simp only [sdoorE]
 obtain⟨wa,ba,hwa,hbaE,hbwa,Bwa⟩:=box1 we 173 [.string x1,.string x2,.string x3,.int .i64 x4,.int .i64 x5,.int .i64 x6,.int .i64 x7]
 have q0:=Bwa.cell 0 rfl
 have hbH:=Lib.hid hbwa
 clear Bwa hbwa
 go_enter Tryz.func175,Tryz.ntmps175
 go_wp2_with fail
 clear hwa hbaE
 go_returns
 exact⟨rfl,hbH.out⟩
theorem pnumb4_any (p:STripP) (we:World):Calls Tryz.prog 179 #[.agg (stripE p).toArray] we fun e w'=>e= .returned (.string p.name)∧Below we.heap.size we w':=by
 obtain⟨x1,x2,x3,x4,x5⟩:=p
 simp only [stripE]
 obtain⟨wa,ba,hwa,hbaE,hbwa,Bwa⟩:=box1 we 179 [.string x1,.string x2,.int .i64 x3,.int .i64 x4,.int .i64 x5]
 have q0:=Bwa.cell 0 rfl
 have hbH:=Lib.hid hbwa
 clear Bwa hbwa
 go_enter Tryz.func179,Tryz.ntmps179
 go_wp2_with fail
 clear hwa hbaE
 go_returns
 exact⟨rfl,hbH.out⟩
theorem pnumb5_any (p:SHazP) (we:World):Calls Tryz.prog 181 #[.agg (shazE p).toArray] we fun e w'=>e= .returned (.string p.name)∧Below we.heap.size we w':=by
 obtain⟨x1,x2,x3,x4,x5⟩:=p
 simp only [shazE]
 obtain⟨wa,ba,hwa,hbaE,hbwa,Bwa⟩:=box1 we 181 [.string x1,.string x2,.int .i64 x3,.int .i64 x4,.int .i64 x5]
 have q0:=Bwa.cell 0 rfl
 have hbH:=Lib.hid hbwa
 clear Bwa hbwa
 go_enter Tryz.func181,Tryz.ntmps181
 go_wp2_with fail
 clear hwa hbaE
 go_returns
 exact⟨rfl,hbH.out⟩
theorem pnumb3_any (p:REl) (we:World):Calls Tryz.prog 177 #[.agg (relE p).toArray] we fun e w'=>e= .returned (.string p.1)∧Below we.heap.size we w':=by
 obtain⟨x0,⟨x1,x2,x3⟩,⟨x4,x5,x6⟩,⟨x7,x8,x9⟩⟩:=p
 simp only [relE,SlV.v]
 obtain⟨wa,ba,hwa,hbaE,hbwa,Bwa⟩:=box1 we 177 [.string x0,.slice x1 x2 x3,.slice x4 x5 x6,.slice x7 x8 x9]
 have q0:=Bwa.cell 0 rfl
 have hbH:=Lib.hid hbwa
 clear Bwa hbwa
 go_enter Tryz.func177,Tryz.ntmps177
 go_wp2_with fail
 clear hwa hbaE
 go_returns
 exact⟨rfl,hbH.out⟩
theorem pnumb6_any (bx:Nat) (a:Option Addr) (n c:Nat) (l:List Str) (s:Str) (w:World) (hx:w.cell? ⟨bx,1,none⟩=some (.slice a n c)) (hr:Rd w 1 strE a n l) (hn:n≤1000000):
 Calls Tryz.prog 182 #[.string s,.pointer (some ⟨bx,0,none⟩)] w fun e w'=>e= .returned (.int .i64 (placeI l s))∧Below w.heap.size w w':=by
 have h:=Lib.hid (pplace_any a n c l s w hr (by omega))
 clear hr
 go_enter Tryz.func182,Tryz.ntmps182
 go_wp2_with fail
 refine h.out.mono ?_;rintro e w' ⟨rfl,hb⟩
 have hbH:=Lib.hid hb
 clear hb
 go_wp2_with fail
 go_returns
 exact⟨rfl,hbH.out⟩
structure NC (w:World) (b4 b5 bx bw:Nat) (a0:Option Addr) (n0 c0:Nat) (stops:List Str):Prop where
 c5:w.cell? ⟨b5,0,none⟩=some (.func (.func 182) #[] #[.pointer (some ⟨bx,0,none⟩)])
 cx:w.cell? ⟨bx,1,none⟩=some (.slice a0 n0 c0)
 r0:Rd w 1 strE a0 n0 stops
 c4:w.cell? ⟨b4,0,none⟩=some (.pointer (some ⟨bw,1,none⟩))
 m0:n0≤1000000
theorem NC.below {w w':World} {b4 b5 bx bw:Nat} {a0:Option Addr} {n0 c0:Nat} {stops:List Str} (h:NC w b4 b5 bx bw a0 n0 c0 stops) (k:Below w.heap.size w w'):NC w' b4 b5 bx bw a0 n0 c0 stops:=
 ⟨up_cell k h.c5,up_cell k h.cx,h.r0.below k,up_cell k h.c4,h.m0⟩
theorem NC.stop {w:World} {b4 b5 bx bw:Nat} {a0:Option Addr} {n0 c0:Nat} {stops:List Str} (h:NC w b4 b5 bx bw a0 n0 c0 stops) (s:Str):Calls Tryz.prog 182 #[.string s,.pointer (some ⟨bx,0,none⟩)] w fun e w'=>e= .returned (.int .i64 (placeI stops s))∧Below w.heap.size w w':=
 pnumb6_any bx a0 n0 c0 stops s w h.cx h.r0 h.m0
theorem pnumb7_any (p:SPathP) (b4 b5 bx bw:Nat) (a0:Option Addr) (n0 c0:Nat) (stops:List Str) (we:World) (h:NC we b4 b5 bx bw a0 n0 c0 stops):Calls Tryz.prog 185 #[.agg (spathE p).toArray,.pointer (some ⟨b5,0,none⟩)] we fun e w'=>e= .returned (.agg (tripE (placeI stops p.a,placeI stops p.b,p.len)).toArray)∧Below we.heap.size we w':=by
 obtain⟨x1,x2,x3,x4⟩:=p
 simp only [spathE]
 obtain⟨w1,w2,b1,b2,hw1,hw2,hbE1,hbE2,hbF2,hb1,hb2,hup,B1,B2,hge1,hge2⟩:=enter2 we 171 99 [.string x1,.string x2,.string x3,.int .i64 x4] [.int .i64 0,.int .i64 0,.int .i64 0]
 have p1:=B1.cell 1 rfl
 have p2:=B1.cell 2 rfl
 have p3:=B1.cell 3 rfl
 have hN:=Lib.hid (h.below hup.out)
 have hc5:=hN.out.c5
 have l5:=World.block_lt_of_cell? w2 ⟨b5,0,none⟩ hc5
 have l1:=B1.lt
 have B2:=Lib.hid B2
 rename_i gX
 clear gX hb1 hb2 h B1
 go_enter Tryz.func185,Tryz.ntmps185
 go_wp2_with fail
 go_upto_region 1 with fail
 refine wp_region_late [0,0,0,0,0,0,0,0,0,0,0,2] (by kernel_rfl) (by kernel_rfl) ?_
 intro C hC
 simp only [pickK,Nat.reduceEqDiff, ↓reduceIte]
 repeat(go_big_quiet_step (first
  |(intro _;with_reducible rfl)
  |(intro hc
    have m0:=(hc.cell (p:=⟨b5,_,none⟩) l5).trans hc5
    have m1:=(hc.cell (p:=⟨b1,_,none⟩) l1).trans p1
    have m2:=(hc.cell (p:=⟨b1,_,none⟩) l1).trans p2
    have m3:=(hc.cell (p:=⟨b1,_,none⟩) l1).trans p3
    simp only [m0,m1,m2,m3,Result.andThen]
    exact⟨trivial,rfl⟩)
  |(intro hc;with_reducible refine((hN.out.below hc).stop x2).mono ?_;rintro e w'' ⟨rfl,hw⟩;exact⟨rfl,hc.trans (hw.mono hc.size)⟩)
  |(intro hc;with_reducible refine((hN.out.below hc).stop x3).mono ?_;rintro e w'' ⟨rfl,hw⟩;exact⟨rfl,hc.trans (hw.mono hc.size)⟩)))
 refine wpQuiet_nil ?_
 clear hC
 intro C' hC'
 refine wpQuiet_nil ?_
 clear hC'
 intro wq hbq
 clear hc5 hw1 hw2 hbE1 hbE2 hbF2 p1 p2 p3
 have hBq:=B2.out.below hbq
 obtain⟨hBF,hbF⟩:=hBq.row [.int .i64 (placeI stops x2),.int .i64 (placeI stops x3),.int .i64 x4]
 obtain⟨wF,hwF⟩: ∃ q,wq.setRow b2 (List.toArray [.int .i64 (placeI stops x2),.int .i64 (placeI stops x3),.int .i64 x4])=q:=⟨_,rfl⟩
 rw [hwF] at hBF hbF
 have h39:=hup.out.trans (hbq.mono hup.out.size)
 have hfin:Hid (Below we.heap.size we wF):=h39.trans (hbF.below h39.size (fun x hx=>by simp only [List.mem_singleton] at hx;subst hx;exact hge2.out))
 replace hBF:=Lib.hid hBF
 clear hbF h39 hbq
 go_wp2_with (refine wpList_store_bx (.tmp 3) (.tmp 14) 99 (by with_reducible rfl) rfl rfl rfl hBq (by kernel_rfl) rfl rfl hwF ?_)
 refine bodyPost_bx (s:=3) (t:=99) rfl rfl hBF.out (by kernel_rfl) (by kernel_rfl) rfl ?_
 exact⟨rfl,hfin.out⟩
theorem pnumb8_any (p:SDoorP) (b4 b5 bx bw:Nat) (a0:Option Addr) (n0 c0:Nat) (stops:List Str) (we:World) (h:NC we b4 b5 bx bw a0 n0 c0 stops):Calls Tryz.prog 187 #[.agg (sdoorE p).toArray,.pointer (some ⟨b5,0,none⟩)] we fun e w'=>e= .returned (.agg (doorE ⟨placeI stops p.a,placeI stops p.b,p.len,p.fr,p.ev,p.du⟩).toArray)∧Below we.heap.size we w':=by
 obtain⟨x1,x2,x3,x4,x5,x6,x7⟩:=p
 simp only [sdoorE]
 obtain⟨w1,w2,b1,b2,hw1,hw2,hbE1,hbE2,hbF2,hb1,hb2,hup,B1,B2,hge1,hge2⟩:=enter2 we 173 104 [.string x1,.string x2,.string x3,.int .i64 x4,.int .i64 x5,.int .i64 x6,.int .i64 x7] [.int .i64 0,.int .i64 0,.int .i64 0,.int .i64 0,.int .i64 0,.int .i64 0]
 have p1:=B1.cell 1 rfl
 have p2:=B1.cell 2 rfl
 have p3:=B1.cell 3 rfl
 have p4:=B1.cell 4 rfl
 have p5:=B1.cell 5 rfl
 have p6:=B1.cell 6 rfl
 have hN:=Lib.hid (h.below hup.out)
 have hc5:=hN.out.c5
 have l5:=World.block_lt_of_cell? w2 ⟨b5,0,none⟩ hc5
 have l1:=B1.lt
 have B2:=Lib.hid B2
 rename_i gX
 clear gX hb1 hb2 h B1
 go_enter Tryz.func187,Tryz.ntmps187
 go_wp2_with fail
 go_upto_region 1 with fail
 refine wp_region_late [0,0,0,0,0,0,0,0,0,0,0,0,0,2] (by kernel_rfl) (by kernel_rfl) ?_
 intro C hC
 simp only [pickK,Nat.reduceEqDiff, ↓reduceIte]
 repeat(go_big_quiet_step (first
  |(intro _;with_reducible rfl)
  |(intro hc
    have m0:=(hc.cell (p:=⟨b5,_,none⟩) l5).trans hc5
    have m1:=(hc.cell (p:=⟨b1,_,none⟩) l1).trans p1
    have m2:=(hc.cell (p:=⟨b1,_,none⟩) l1).trans p2
    have m3:=(hc.cell (p:=⟨b1,_,none⟩) l1).trans p3
    have m4:=(hc.cell (p:=⟨b1,_,none⟩) l1).trans p4
    have m5:=(hc.cell (p:=⟨b1,_,none⟩) l1).trans p5
    have m6:=(hc.cell (p:=⟨b1,_,none⟩) l1).trans p6
    simp only [m0,m1,m2,m3,m4,m5,m6,Result.andThen]
    exact⟨trivial,rfl⟩)
  |(intro hc;with_reducible refine((hN.out.below hc).stop x2).mono ?_;rintro e w'' ⟨rfl,hw⟩;exact⟨rfl,hc.trans (hw.mono hc.size)⟩)
  |(intro hc;with_reducible refine((hN.out.below hc).stop x3).mono ?_;rintro e w'' ⟨rfl,hw⟩;exact⟨rfl,hc.trans (hw.mono hc.size)⟩)))
 refine wpQuiet_nil ?_
 clear hC
 intro C' hC'
 refine wpQuiet_nil ?_
 clear hC'
 intro wq hbq
 clear hc5 hw1 hw2 hbE1 hbE2 hbF2 p1 p2 p3 p4 p5 p6
 have hBq:=B2.out.below hbq
 obtain⟨hBF,hbF⟩:=hBq.row [.int .i64 (placeI stops x2),.int .i64 (placeI stops x3),.int .i64 x4,.int .i64 x5,.int .i64 x6,.int .i64 x7]
 obtain⟨wF,hwF⟩: ∃ q,wq.setRow b2 (List.toArray [.int .i64 (placeI stops x2),.int .i64 (placeI stops x3),.int .i64 x4,.int .i64 x5,.int .i64 x6,.int .i64 x7])=q:=⟨_,rfl⟩
 rw [hwF] at hBF hbF
 have h39:=hup.out.trans (hbq.mono hup.out.size)
 have hfin:Hid (Below we.heap.size we wF):=h39.trans (hbF.below h39.size (fun x hx=>by simp only [List.mem_singleton] at hx;subst hx;exact hge2.out))
 replace hBF:=Lib.hid hBF
 clear hbF h39 hbq
 go_wp2_with (refine wpList_store_bx (.tmp 3) (.tmp 16) 104 (by with_reducible rfl) rfl rfl rfl hBq (by kernel_rfl) rfl rfl hwF ?_)
 refine bodyPost_bx (s:=3) (t:=104) rfl rfl hBF.out (by kernel_rfl) (by kernel_rfl) rfl ?_
 exact⟨rfl,hfin.out⟩
theorem pnumb10_any (p:STripP) (b4 b5 bx bw:Nat) (a0:Option Addr) (n0 c0:Nat) (stops:List Str) (we:World) (h:NC we b4 b5 bx bw a0 n0 c0 stops) (a3:Option Addr) (n3 c3:Nat) (l3:List Str) (h3:we.cell? ⟨bw,4,none⟩=some (.slice a3 n3 c3)) (hr3:Rd we 1 strE a3 n3 l3) (hn3:n3≤1000000):Calls Tryz.prog 192 #[.agg (stripE p).toArray,.pointer (some ⟨b4,0,none⟩)] we fun e w'=>e= .returned (.agg (tripP ⟨placeI l3 p.route,p.fr,p.ev,p.un⟩).toArray)∧Below we.heap.size we w':=by
 obtain⟨x1,x2,x3,x4,x5⟩:=p
 simp only [stripE]
 obtain⟨w1,w2,b1,b2,hw1,hw2,hbE1,hbE2,hbF2,hb1,hb2,hup,B1,B2,hge1,hge2⟩:=enter2 we 179 53 [.string x1,.string x2,.int .i64 x3,.int .i64 x4,.int .i64 x5] [.int .i64 0,.int .i64 0,.int .i64 0,.int .i64 0]
 have p1:=B1.cell 1 rfl
 have p2:=B1.cell 2 rfl
 have p3:=B1.cell 3 rfl
 have p4:=B1.cell 4 rfl
 have c4:=(h.below hup.out).c4
 have c3':=up_cell hup.out h3
 have hr:=Lib.hid (hr3.below hup.out)
 have l4:=World.block_lt_of_cell? w2 ⟨b4,0,none⟩ c4
 have l3':=World.block_lt_of_cell? w2 ⟨bw,4,none⟩ c3'
 have l1:=B1.lt
 have B2:=Lib.hid B2
 rename_i gX
 clear gX hb1 hb2 h B1 h3 hr3
 go_enter Tryz.func192,Tryz.ntmps192
 go_wp2_with fail
 go_upto_region 1 with fail
 refine wp_region_late [0,0,0,0,0,0,0,0,0,0,0,0,0,0,2] (by kernel_rfl) (by kernel_rfl) ?_
 intro C hC
 simp only [pickK,Nat.reduceEqDiff, ↓reduceIte]
 repeat(go_big_quiet_step (first
  |(intro _;with_reducible rfl)
  |(intro hc
    have m0:=(hc.cell (p:=⟨b4,_,none⟩) l4).trans c4
    have m1:=(hc.cell (p:=⟨bw,_,none⟩) l3').trans c3'
    have m2:=(hc.cell (p:=⟨b1,_,none⟩) l1).trans p1
    have m3:=(hc.cell (p:=⟨b1,_,none⟩) l1).trans p2
    have m4:=(hc.cell (p:=⟨b1,_,none⟩) l1).trans p3
    have m5:=(hc.cell (p:=⟨b1,_,none⟩) l1).trans p4
    simp only [m0,m1,m2,m3,m4,m5,Result.andThen]
    exact⟨trivial,rfl⟩)
  |(intro hc;with_reducible refine(pplace_any a3 n3 c3 l3 x2 _ (hr.out.below hc) (by omega)).mono ?_;rintro e w'' ⟨rfl,hw⟩;exact⟨rfl,hc.trans (hw.mono hc.size)⟩)))
 refine wpQuiet_nil ?_
 clear hC
 intro C' hC'
 refine wpQuiet_nil ?_
 clear hC'
 intro wq hbq
 clear c4 c3' hw1 hw2 hbE1 hbE2 hbF2 p1 p2 p3 p4
 have hBq:=B2.out.below hbq
 obtain⟨hBF,hbF⟩:=hBq.row [.int .i64 (placeI l3 x2),.int .i64 x3,.int .i64 x4,.int .i64 x5]
 obtain⟨wF,hwF⟩: ∃ q,wq.setRow b2 (List.toArray [.int .i64 (placeI l3 x2),.int .i64 x3,.int .i64 x4,.int .i64 x5])=q:=⟨_,rfl⟩
 rw [hwF] at hBF hbF
 have h39:=hup.out.trans (hbq.mono hup.out.size)
 have hfin:Hid (Below we.heap.size we wF):=h39.trans (hbF.below h39.size (fun x hx=>by simp only [List.mem_singleton] at hx;subst hx;exact hge2.out))
 replace hBF:=Lib.hid hBF
 clear hbF h39 hbq
 go_wp2_with (refine wpList_store_bx (.tmp 3) (.tmp 17) 53 (by with_reducible rfl) rfl rfl rfl hBq (by kernel_rfl) rfl rfl hwF ?_)
 refine bodyPost_bx (s:=3) (t:=53) rfl rfl hBF.out (by kernel_rfl) (by kernel_rfl) rfl ?_
 exact⟨rfl,hfin.out⟩
theorem pnumb11_any (p:SHazP) (b4 b5 bx bw:Nat) (a0:Option Addr) (n0 c0:Nat) (stops:List Str) (we:World) (h:NC we b4 b5 bx bw a0 n0 c0 stops) (a1:Option Addr) (n1 c1:Nat) (l1:List Str) (h1:we.cell? ⟨bw,2,none⟩=some (.slice a1 n1 c1)) (hr1:Rd we 1 strE a1 n1 l1) (hn1:n1≤1000000):Calls Tryz.prog 194 #[.agg (shazE p).toArray,.pointer (some ⟨b5,0,none⟩),.pointer (some ⟨b4,0,none⟩)] we fun e w'=>e= .returned (.agg (hazE (if placeI stops p.on<0 then⟨false,placeI l1 p.on,p.fr,p.ev,p.du⟩ else⟨true,placeI stops p.on,p.fr,p.ev,p.du⟩)).toArray)∧Below we.heap.size we w':=by
 obtain⟨x1,x2,x3,x4,x5⟩:=p
 simp only [shazE]
 obtain⟨w1,w2,b1,b2,hw1,hw2,hbE1,hbE2,hbF2,hb1,hb2,hup,B1,B2,hge1,hge2⟩:=enter2 we 181 108 [.string x1,.string x2,.int .i64 x3,.int .i64 x4,.int .i64 x5] [.bool false,.int .i64 0,.int .i64 0,.int .i64 0,.int .i64 0]
 have p1:=B1.cell 1 rfl
 have hN:=Lib.hid (h.below hup.out)
 have hc5:=hN.out.c5
 have hcw:=up_cell hup.out h1
 have hr:=Lib.hid (hr1.below hup.out)
 have B1:=Lib.hid B1
 have B2:=Lib.hid B2
 rename_i gX gY
 clear gX gY hb1 hb2 h h1 hr1
 have hst:=Lib.hid (fun w h=>NC.stop (w:=w) (b4:=b4) (b5:=b5) (bx:=bx) (bw:=bw) (a0:=a0) (n0:=n0) (c0:=c0) (stops:=stops) h x2)
 obtain⟨pq,hq⟩: ∃ q,placeI stops x2=q:=⟨_,rfl⟩
 rw [hq] at hst
 show Calls _ _ _ _ (fun e w'=>e= .returned (.agg (hazE (if placeI stops x2<0 then⟨false,placeI l1 x2,x3,x4,x5⟩ else⟨true,placeI stops x2,x3,x4,x5⟩)).toArray)∧_)
 rw [hq]
 clear hq
 by_cases hneg:pq<0
 ·rw [if_pos hneg]
  have hd:decide (pq≥0)=false:=decide_eq_false (by omega)
  clear hneg
  go_enter Tryz.func194,Tryz.ntmps194
  go_wp2_with fail
  refine(hst.out w2 hN.out).mono ?_;rintro e w3 ⟨rfl,hb3⟩
  clear hw1 hw2 hbE1 hbE2 hbF2 p1 hc5
  have B13:=B1.out.below hb3
  have z1:=B13.cell 1 rfl
  have z2:=B13.cell 2 rfl
  have z3:=B13.cell 3 rfl
  have z4:=B13.cell 4 rfl
  have l1':=B13.lt
  have c4:=(hN.out.below hb3).c4
  have l4:=World.block_lt_of_cell? w3 ⟨b4,0,none⟩ c4
  have cw:=up_cell hb3 hcw
  have lw:=World.block_lt_of_cell? w3 ⟨bw,2,none⟩ cw
  have hr3:=Lib.hid (hr.out.below hb3)
  have hb3H:=Lib.hid hb3
  clear B13 hb3 hcw
  go_wp2_with fail
  go_upto_region 4 with fail
  refine wp_region_late [0,0,0,0,0,0,0,0,0,0,2] (by kernel_rfl) (by kernel_rfl) ?_
  intro C hC
  simp only [pickK,Nat.reduceEqDiff, ↓reduceIte]
  repeat(go_big_quiet_step (first
   |(intro _;with_reducible rfl)
   |(intro hc
     have m0:=(hc.cell (p:=⟨b4,_,none⟩) l4).trans c4
     have m1:=(hc.cell (p:=⟨bw,_,none⟩) lw).trans cw
     have m2:=(hc.cell (p:=⟨b1,_,none⟩) l1').trans z1
     have m3:=(hc.cell (p:=⟨b1,_,none⟩) l1').trans z2
     have m4:=(hc.cell (p:=⟨b1,_,none⟩) l1').trans z3
     have m5:=(hc.cell (p:=⟨b1,_,none⟩) l1').trans z4
     simp only [m0,m1,m2,m3,m4,m5,Result.andThen]
     exact⟨trivial,rfl⟩)
   |(intro hc;with_reducible refine(pplace_any a1 n1 c1 l1 x2 _ (hr3.out.below hc) (by omega)).mono ?_;rintro e w'' ⟨rfl,hw⟩;exact⟨rfl,hc.trans (hw.mono hc.size)⟩)))
  refine wpQuiet_nil ?_
  clear hC
  intro C' hC'
  refine wpQuiet_nil ?_
  clear hC'
  intro wq hbq
  clear c4 cw z1 z2 z3 z4
  have hBq:=B2.out.below (hb3H.out.trans (hbq.mono hb3H.out.size))
  obtain⟨hBF,hbF⟩:=hBq.row [.bool false,.int .i64 (placeI l1 x2),.int .i64 x3,.int .i64 x4,.int .i64 x5]
  obtain⟨wF,hwF⟩: ∃ q,wq.setRow b2 (List.toArray [.bool false,.int .i64 (placeI l1 x2),.int .i64 x3,.int .i64 x4,.int .i64 x5])=q:=⟨_,rfl⟩
  rw [hwF] at hBF hbF
  have h39:=hup.out.trans (((hb3H.out.trans (hbq.mono hb3H.out.size))).mono hup.out.size)
  have hfin:Hid (Below we.heap.size we wF):=h39.trans (hbF.below h39.size (fun x hx=>by simp only [List.mem_singleton] at hx;subst hx;exact hge2.out))
  replace hBF:=Lib.hid hBF
  clear hbF h39
  go_wp2_with (refine wpList_store_bx (.tmp 4) (.tmp 25) 108 (by with_reducible rfl) rfl rfl rfl hBq (by kernel_rfl) rfl rfl hwF ?_)
  refine bodyPost_bx (s:=4) (t:=108) rfl rfl hBF.out (by kernel_rfl) (by kernel_rfl) rfl ?_
  exact⟨rfl,hfin.out⟩
 ·rw [if_neg hneg]
  have hd:decide (pq≥0)=true:=decide_eq_true (by omega)
  clear hneg
  go_enter Tryz.func194,Tryz.ntmps194
  go_wp2_with fail
  refine(hst.out w2 hN.out).mono ?_;rintro e w3 ⟨rfl,hb3⟩
  clear hw1 hw2 hbE1 hbE2 hbF2 p1 hc5
  have B13:=B1.out.below hb3
  have z2:=B13.cell 2 rfl
  have z3:=B13.cell 3 rfl
  have z4:=B13.cell 4 rfl
  have hb3H:=Lib.hid hb3
  clear B13 hb3 hcw
  have hBq:=B2.out.below hb3H.out
  obtain⟨hBF,hbF⟩:=hBq.row [.bool true,.int .i64 pq,.int .i64 x3,.int .i64 x4,.int .i64 x5]
  obtain⟨wF,hwF⟩: ∃ q,w3.setRow b2 (List.toArray [.bool true,.int .i64 pq,.int .i64 x3,.int .i64 x4,.int .i64 x5])=q:=⟨_,rfl⟩
  rw [hwF] at hBF hbF
  have h39:=hup.out.trans ((hb3H.out).mono hup.out.size)
  have hfin:Hid (Below we.heap.size we wF):=h39.trans (hbF.below h39.size (fun x hx=>by simp only [List.mem_singleton] at hx;subst hx;exact hge2.out))
  replace hBF:=Lib.hid hBF
  clear hbF h39
  go_wp2_with (refine wpList_store_bx (.tmp 4) (.tmp 15) 108 (by with_reducible rfl) rfl rfl rfl hBq (by kernel_rfl) rfl rfl hwF ?_)
  refine bodyPost_bx (s:=4) (t:=108) rfl rfl hBF.out (by kernel_rfl) (by kernel_rfl) rfl ?_
  exact⟨rfl,hfin.out⟩
theorem pnumb9_any (x:REl) (r:SRouteP) (b4 b5 bx bw:Nat) (a0:Option Addr) (n0 c0:Nat) (stops:List Str) (we:World) (h:NC we b4 b5 bx bw a0 n0 c0 stops) (h1:Rd we 1 strE x.2.1.1 x.2.1.2.1 r.stops) (h2:Rd we 1 (numE .i64) x.2.2.1.1 x.2.2.1.2.1 r.rides) (h3:Rd we 1 (numE .i64) x.2.2.2.1 x.2.2.2.2.1 r.stays) (m1:x.2.1.2.1≤1000000) (m2:x.2.2.1.2.1≤1000000) (m3:x.2.2.2.2.1≤1000000):Calls Tryz.prog 189 #[.agg (relE x).toArray,.pointer (some ⟨b5,0,none⟩)] we fun e w'=> ∃ y:RE3,e= .returned (.agg (re3E y).toArray)∧RouT we.heap.size w' y ⟨r.stops.map (placeI stops),r.rides,r.stays⟩∧Below we.heap.size we w':=by
 obtain⟨x0,⟨x1,x2,x3⟩,⟨x4,x5,x6⟩,⟨x7,x8,x9⟩⟩:=x
 simp only [relE,SlV.v] at*
 obtain⟨w1,w2,b1,b2,hw1,hw2,hbE1,hbE2,hbF2,hb1,hb2,hup,B1,B2,hge1,hge2⟩:=enter2 we 177 51 [.string x0,.slice x1 x2 x3,.slice x4 x5 x6,.slice x7 x8 x9] [.slice none 0 0,.slice none 0 0,.slice none 0 0]
 have p1:=B1.cell 1 rfl
 have p2:=B1.cell 2 rfl
 have p3:=B1.cell 3 rfl
 have hN:=Lib.hid (h.below hup.out)
 have E1:=Lib.hid h1.len
 have E2:=Lib.hid h2.len
 have E3:=Lib.hid h3.len
 have R1:=Lib.hid (h1.below hup.out)
 have R2:=Lib.hid (h2.below hup.out)
 have R3:=Lib.hid (h3.below hup.out)
 have hc5:=hN.out.c5
 have l5:=World.block_lt_of_cell? w2 ⟨b5,0,none⟩ hc5
 have l1:=B1.lt
 have c1:=Lib.hid (fun(w:World) (h:Below w2.heap.size w2 w)=>allSI_any 182 #[.pointer (some ⟨bx,0,none⟩)] (enters_of Tryz.func182 (by kernel_rfl) rfl) (placeI stops) x1 x2 x3 r.stops w (R1.out.below h) (by omega) (fun W s hb _=>((hN.out.below h).below hb).stop s))
 have c2:=Lib.hid (fun(w:World) (h:Below w2.heap.size w2 w)=>clNum_any x4 x5 x6 r.rides w (R2.out.below h) (by omega))
 have c3:=Lib.hid (fun(w:World) (h:Below w2.heap.size w2 w)=>clNum_any x7 x8 x9 r.stays w (R3.out.below h) (by omega))
 have B2:=Lib.hid B2
 rename_i gX
 clear gX hb1 hb2 h B1 h1 h2 h3
 go_enter Tryz.func189,Tryz.ntmps189
 go_wp2_with fail
 go_upto_region 1 with fail
 refine wp_region_lateM w2.heap.size [0,0,0,3,0,0,3,0,0,3,4,2] (by kernel_rfl) (by kernel_rfl) (Nat.le_refl _) ?_
 intro C hC
 simp only [pickK,pickT,Nat.reduceLeDiff,Nat.reduceEqDiff, ↓reduceIte]
 repeat(go_big_quiet_step (first
  |(intro _;with_reducible rfl)
  |(intro hc
    have m0:=(hc.cell (p:=⟨b5,_,none⟩) l5).trans hc5
    have m1:=(hc.cell (p:=⟨b1,_,none⟩) l1).trans p1
    have m2:=(hc.cell (p:=⟨b1,_,none⟩) l1).trans p2
    have m3:=(hc.cell (p:=⟨b1,_,none⟩) l1).trans p3
    simp only [m0,m1,m2,m3,Result.andThen]
    exact⟨trivial,rfl⟩)))
 refine wpQuiet_nil ?_
 clear hC
 intro C' hC'
 refine wpQuiet_nil ?_
 clear hC'
 intro wq hbq
 replace hbq:Below w2.heap.size w2 wq:=by rw [hbq];exact⟨rfl,rfl,rfl,Nat.le_refl _,fun _ _=>rfl⟩
 have hbqH:=Lib.hid hbq
 clear hbq hw1 hw2 hbE1 hbE2 hbF2 p1 p2 p3 hc5
 refine wpTail4_one (by decide) ?_
 go_wp2_with fail
 refine(c1.out wq hbqH.out).mono ?_;rintro e w5 ⟨v1,rfl,ow1,hb5⟩
 have h5:=Lib.hid (hbqH.out.trans (hb5.mono hbqH.out.size))
 obtain⟨D1,k1',e1,_⟩:=Rd.of_own num_len (show(r.stops.map (placeI stops)).length =x2 by rw [List.length_map];exact E1.out) ow1
 subst e1
 have O1:=Lib.hid ow1
 clear hb5 ow1
 go_wp2_with fail
 refine⟨fun _=>h5.out,?_⟩
 refine wpTail4_one (by decide) ?_
 go_wp2_with fail
 refine(c2.out w5 h5.out).mono ?_;rintro e w6 ⟨v2,rfl,ow2,hb6⟩
 have h6:=Lib.hid (h5.out.trans (hb6.mono h5.out.size))
 obtain⟨D2,k2',e2,_⟩:=Rd.of_own num_len E2.out ow2
 subst e2
 have O2:=Lib.hid ow2
 have B6:=Lib.hid hb6
 clear hb6 ow2
 go_wp2_with fail
 refine⟨fun _=>h6.out,?_⟩
 refine wpTail4_one (by decide) ?_
 go_wp2_with fail
 refine(c3.out w6 h6.out).mono ?_;rintro e w7 ⟨v3,rfl,ow3,hb7⟩
 have h7:=Lib.hid (h6.out.trans (hb7.mono h6.out.size))
 obtain⟨D3,k3',e3,_⟩:=Rd.of_own num_len E3.out ow3
 subst e3
 have O3:=Lib.hid ow3
 have B7:=Lib.hid hb7
 clear hb7 ow3
 go_wp2_with fail
 refine⟨fun _=>h7.out,?_⟩
 refine wpTail4_quiet ?_
 intro C' hC'
 repeat(go_big_quiet_step (first|(intro _;with_reducible rfl)))
 refine wpQuiet_nil ?_
 clear hC'
 refine wpTail4_list _ _ _ (by simp) ?_
 simp only [List.map_cons,List.map_nil]
 have hBq:=B2.out.below h7.out
 obtain⟨hBF,hbF⟩:=hBq.row [.slice D1 x2 k1',.slice D2 x5 k2',.slice D3 x8 k3']
 obtain⟨wF,hwF⟩: ∃ q,w7.setRow b2 (List.toArray [.slice D1 x2 k1',.slice D2 x5 k2',.slice D3 x8 k3'])=q:=⟨_,rfl⟩
 rw [hwF] at hBF hbF
 have h39:=hup.out.trans (h7.out.mono hup.out.size)
 have hfin:Hid (Below we.heap.size we wF):=h39.trans (hbF.below h39.size (fun x hx=>by simp only [List.mem_singleton] at hx;subst hx;exact hge2.out))
 have hgq:=Nat.le_trans hup.out.size hbqH.out.size
 have hg5:=Nat.le_trans hup.out.size h5.out.size
 have hg6:=Nat.le_trans hup.out.size h6.out.size
 have hT:Hid (RouT we.heap.size wF ((D1,x2,k1'),(D2,x5,k2'),(D3,x8,k3')) ⟨r.stops.map (placeI stops),r.rides,r.stays⟩):=by
  refine⟨?_,?_,?_⟩
  ·have:=own_box (own_base (own_below (own_below O1.out B6.out) B7.out) hgq) hBq (by decide) hbF
   show wF.ownsRow _ _ _ _ (r.stops.map (placeI stops)).length _
   rw [List.length_map,E1.out];exact this
  ·have:=own_box (own_base (own_below O2.out B7.out) hg5) hBq (by decide) hbF
   show wF.ownsRow _ _ _ _ r.rides.length _
   rw [E2.out];exact this
  ·have:=own_box (own_base O3.out hg6) hBq (by decide) hbF
   show wF.ownsRow _ _ _ _ r.stays.length _
   rw [E3.out];exact this
 replace hBF:=Lib.hid hBF
 clear hbF h39 hgq hg5 hg6
 go_wp2_with (refine wpList_store_bx (.tmp 3) (.tmp 14) 51 (by with_reducible rfl) rfl rfl rfl hBq (by kernel_rfl) rfl rfl hwF ?_)
 refine bodyPost_bx (s:=3) (t:=51) rfl rfl hBF.out (by kernel_rfl) (by kernel_rfl) rfl ?_
 exact⟨((D1,x2,k1'),(D2,x5,k2'),(D3,x8,k3')),rfl,hT.out,hfin.out⟩
end Go.Proofs.YtechdefolfboeaaGreatDoor
