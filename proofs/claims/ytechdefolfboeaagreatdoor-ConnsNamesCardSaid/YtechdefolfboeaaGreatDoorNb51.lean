/- Texts of one chain, merged. -/
import Derived.Test.YtechdefolfboeaaGreatDoorNb30
import Derived.Test.YtechdefolfboeaaGreatDoorNb49
import Derived.Test.YtechdefolfboeaaGreatDoorNb50
namespace Go.Proofs.YtechdefolfboeaaGreatDoor
open Go.RowKit B K
set_option linter.unusedVariables false
set_option linter.unusedSimpArgs false
set_option maxRecDepth 100000
set_option maxHeartbeats 2000000
set_option maxHeartbeats 8000000
theorem fit01:(if goodB nameB M0&&fitsR M0 ⟨1,0,[6,7,9],[6,7,9]⟩ then(0:Int) else 2)=0:=by kernel_rfl
theorem fit10:(if goodB nameB M0&&fitsR M0 ⟨0,0,[5,5,12],[5,9,12]⟩ then(0:Int) else 2)=2:=by kernel_rfl
theorem hC4:C0.length=4:=rfl
theorem less01 (w:World):Calls Tryz.prog 20 #[.agg #[.int .i64 5,.int .i64 8,.int .i64 0,.int .i64 1,.int .i64 0,.int .i64 0],.agg #[.int .i64 6,.int .i64 7,.int .i64 0,.int .i64 1,.int .i64 1,.int .i64 0]] w fun e w'=>e= .returned (.bool true)∧Below w.heap.size w w':=
 (cless_any ⟨5,8,0,1,0,0⟩ ⟨6,7,0,1,1,0⟩ w).mono fun e w' h=>⟨by rw [h.1];rfl,h.2.below⟩
theorem less11 (w:World):Calls Tryz.prog 20 #[.agg #[.int .i64 6,.int .i64 7,.int .i64 0,.int .i64 1,.int .i64 1,.int .i64 0],.agg #[.int .i64 6,.int .i64 7,.int .i64 0,.int .i64 1,.int .i64 1,.int .i64 0]] w fun e w'=>e= .returned (.bool false)∧Below w.heap.size w w':=
 (cless_any ⟨6,7,0,1,1,0⟩ ⟨6,7,0,1,1,0⟩ w).mono fun e w' h=>⟨by rw [h.1];rfl,h.2.below⟩
theorem conns_head (A:Option Addr) (n c k:Nat) (hk:k≤c) (W:World):(Instr.slice 37 (.slice A n c) none (some (.int .i64 (k:Int))) none).run Tryz.prog W= .ok (.slice A k c) W:=
 (run_head (P:=Tryz.prog) (t:=37) (e:=42) (s:=6) Tryz.underlying37 (by kernel_rfl) (fun W=>by simp [go_sem]) A n c k hk .i64 W).trans (by
   have e:cutA A c 0 6=A:=by
    unfold cutA
    split
    ·rfl
    ·cases A with
     |none=>rfl
     |some a=>simp [Addr.add]
   rw [e])
theorem names19_any (we:World) (hsp:Sp we):Calls Tryz.prog 6 #[] we fun e w'=>e= .returned (.bool true)∧Below we.heap.size we w':=by
 have hsH:=Lib.hid hsp
 clear hsp
 go_enter Tryz.func6,Tryz.ntmps6
 go_wp2_with fail
 refine(world19_any we).mono ?_;rintro e w1 ⟨V,rfl,hW,hb1⟩
 have hWH:=Lib.hid hW
 have hb1H:=Lib.hid hb1
 clear hW hb1
 go_wp2_with fail
 refine(runs19_any w1).mono ?_;rintro e w2 ⟨b,rfl,hR,hb2⟩
 have hb2H:=Lib.hid (hb1H.out.trans (hb2.mono hb1H.out.size))
 have hmk:=Lib.hid (cmake_any M0 V (some ⟨b,0,none⟩) 2 2 L0 w2 (hWH.out.below hb2) few0 (hsH.out.below hb2H.out) hR (by decide))
 rw [res0,err0] at hmk
 clear hR hb2 hWH
 go_wp2_with fail
 refine hmk.out.mono ?_;rintro e w3 ⟨A3,c3,rfl,r3,hc3,hm3,hb3⟩
 have hb3H:=Lib.hid (hb2H.out.trans (hb3.mono hb2H.out.size))
 have r3H:Hid (Rd w3 6 connE A3 4 C0):=r3
 have hc3':4≤c3:=hc3
 clear hmk r3 hb3 hb1H hb2H hc3
 go_wp2_with fail
 refine(runs19_own w3).mono ?_;rintro e w4 ⟨b0,b1,b2,b3,b4,rfl,g0,⟨n1,n2,n3,n4⟩,K0,K1,K2,K3,K4,hb4⟩
 have k42:=K4.cell 2 rfl
 have k01:=K0.cell 1 rfl
 have kf:=K0.frozen 1
 have l0:=K0.lt
 have l4:=K4.lt
 obtain⟨w5,hw5⟩: ∃ q,w4.setCell ⟨b0,1,none⟩ (.int .i64 5)=q:=⟨_,rfl⟩
 have E0:=K0.set 1 (.int .i64 5)
 have hbt:=But.of_set w4 ⟨b0,1,none⟩ (.int .i64 5) (X:=[b0]) (by simp)
 rw [hw5] at E0 hbt
 have E1:=K1.keep (hbt.keep b1 K1.lt (by simp;omega))
 have E2:=K2.keep (hbt.keep b2 K2.lt (by simp;omega))
 have E3:=K3.keep (hbt.keep b3 K3.lt (by simp;omega))
 have E4:=K4.keep (hbt.keep b4 K4.lt (by simp;omega))
 have hbad:=Lib.hid (rruns_bad E0 E1 E2 E3 E4)
 have h35:Hid (Below w3.heap.size w3 w5):=by rw [←hw5];exact hb4.setCell g0 _
 have hb5H:=Lib.hid (hb3H.out.trans (h35.out.mono hb3H.out.size))
 clear E0 E1 E2 E3 E4 hbt K0 K1 K2 K3 K4 hb4 g0 n1 n2 n3 n4
 go_wp2_with fail
 refine(world19_any w5).mono ?_;rintro e w6 ⟨V6,rfl,hW6,hb6⟩
 clear hw5 k42 k01 kf l0 l4
 have hb6H:=Lib.hid (hb5H.out.trans (hb6.mono hb5H.out.size))
 have hmk6:=Lib.hid (cmake_any M0 V6 (some ⟨b4,0,none⟩) 2 2 L1 w6 hW6 few0 (hsH.out.below hb6H.out) (hbad.out.below hb6) (by decide))
 rw [resC_bad err1 (by decide),err1] at hmk6
 have h36:=Lib.hid (h35.out.trans (hb6.mono h35.out.size))
 have h56:=Lib.hid hb6
 clear hW6 hb6
 go_wp2_with fail
 refine hmk6.out.mono ?_;rintro e w7 ⟨A7,c7,rfl,_,_,_,hb7⟩
 have hb7H:=Lib.hid (hb6H.out.trans (hb7.mono hb6H.out.size))
 have h37:=Lib.hid (h36.out.trans (hb7.mono h36.out.size))
 have h57:=Lib.hid (h56.out.trans (hb7.mono h56.out.size))
 clear hb7 hmk6 hb6H h36 h56
 go_wp2_with fail
 go_upto_region 5 with fail
 go_cut [6,7] (fun _ v wx=>v= .int .i64 3∧Hid (Below w7.heap.size w7 wx))
 case first=>
  refine wp_region_lateA [2,2,2,2,2,2,2,2] (by kernel_rfl) (by kernel_rfl) ?_
  intro C hC
  simp only [pickK,Nat.reduceEqDiff, ↓reduceIte]
  refine wpQuiet_nil ?_
  clear hC
  intro C' hC'
  refine wpQuiet_nil ?_
  clear hC'
  intro wq hbq
  have hq:=Lib.hid hbq
  clear hbq
  show wpAny _ _ _ _ 8 _ _ _
  refine any_two (i:=0) (j:=1) (by kernel_rfl) rfl rfl ?_ ?_
  ·go_wp2_with fail
   refine(world19_any wq).mono ?_;rintro e w8 ⟨V8,rfl,hW8,hb8⟩
   have hW8H:=Lib.hid hW8
   have h78:=Lib.hid (hq.out.trans (hb8.mono hq.out.size))
   clear hW8 hb8
   have haw9:=(Below.refl _ w8).alloc (Nat.le_refl w8.heap.size) (.cells (madeCells #[.int .i64 0,.int .i64 0,.slice none 0 0,.slice none 0 0] (16385*4)) 47)
   have hnw9:=heap_alloc_new w8 (.cells (madeCells #[.int .i64 0,.int .i64 0,.slice none 0 0,.slice none 0 0] (16385*4)) 47)
   have hmk:(Instr.makeSlice 32 (.int .i64 16385) (.int .i64 16385)).run Tryz.prog w8= .ok (.slice (some ⟨w8.heap.size,0,none⟩) 16385 16385) (w8.alloc (.cells (madeCells #[.int .i64 0,.int .i64 0,.slice none 0 0,.slice none 0 0] (16385*4)) 47)):=make_runs 16385 (by decide) w8
   obtain⟨w9,hWw9⟩: ∃ q,w8.alloc (.cells (madeCells #[.int .i64 0,.int .i64 0,.slice none 0 0,.slice none 0 0] (16385*4)) 47)=q:=⟨_,rfl⟩
   rw [hWw9] at haw9 hnw9 hmk
   obtain⟨bm,hbm⟩: ∃ q,w8.heap.size=q:=⟨_,rfl⟩
   rw [hbm] at hnw9 hmk
   have rz:=Lib.hid (rruns_made 16385 hnw9)
   clear hWw9 hnw9 hbm
   have h79:=Lib.hid (h78.out.trans (haw9.mono h78.out.size))
   have hmk9:=Lib.hid (cmake_any M0 V8 (some ⟨bm,0,none⟩) 16385 16385 _ w9 (hW8H.out.below haw9) few0 (hsH.out.below (hb7H.out.trans (h79.out.mono hb7H.out.size))) rz.out (by decide))
   rw [resC_bad errL (by decide),errL] at hmk9
   clear haw9 hW8H rz
   go_wp2_with fail
   refine any_one (i:=1) (by kernel_rfl) rfl ?_
   go_wp2_with fail
   refine any_one (i:=2) (by kernel_rfl) rfl ?_
   go_wp2_with fail
   refine hmk9.out.mono ?_;rintro e w10 ⟨A10,c10,rfl,_,_,_,hb10⟩
   have h710:=Lib.hid (h79.out.trans (hb10.mono h79.out.size))
   clear hb10 hmk9
   go_wp2_with fail
   refine any_one (i:=3) (by kernel_rfl) rfl ?_
   go_wp2_with fail
   refine any_two (i:=4) (j:=5) (by kernel_rfl) rfl rfl ?_ ?_
   ·go_wp2_with fail
    refine any_two (i:=5) (j:=6) (by kernel_rfl) rfl rfl ?_ ?_
    ·go_wp2_with fail
     refine any_one (i:=6) (by kernel_rfl) rfl ?_
     go_wp2_with fail
     refine any_one (i:=7) (by kernel_rfl) rfl ?_
     go_wp2_with fail
     refine any_end (by kernel_rfl) ?_
     go_wp2_with fail
     go_meet
     exact⟨rfl,h710⟩
    ·go_wp2_with fail
     refine any_one (i:=5) (by kernel_rfl) rfl ?_
     go_wp2_with fail
     refine any_one (i:=7) (by kernel_rfl) rfl ?_
     go_wp2_with fail
     refine any_end (by kernel_rfl) ?_
     go_wp2_with fail
     go_meet
     exact⟨rfl,h710⟩
   ·go_wp2_with fail
    refine any_one (i:=4) (by kernel_rfl) rfl ?_
    go_wp2_with fail
    refine any_one (i:=6) (by kernel_rfl) rfl ?_
    go_wp2_with fail
    refine any_one (i:=7) (by kernel_rfl) rfl ?_
    go_wp2_with fail
    refine any_end (by kernel_rfl) ?_
    go_wp2_with fail
    go_meet
    exact⟨rfl,h710⟩
  ·have haw8:=(Below.refl _ wq).alloc (Nat.le_refl wq.heap.size) (.cells (madeCells #[.int .i64 0,.int .i64 0,.slice none 0 0,.slice none 0 0] (16385*4)) 47)
   have hnw8:=heap_alloc_new wq (.cells (madeCells #[.int .i64 0,.int .i64 0,.slice none 0 0,.slice none 0 0] (16385*4)) 47)
   have hmk:(Instr.makeSlice 32 (.int .i64 16385) (.int .i64 16385)).run Tryz.prog wq= .ok (.slice (some ⟨wq.heap.size,0,none⟩) 16385 16385) (wq.alloc (.cells (madeCells #[.int .i64 0,.int .i64 0,.slice none 0 0,.slice none 0 0] (16385*4)) 47)):=make_runs 16385 (by decide) wq
   obtain⟨w8,hWw8⟩: ∃ q,wq.alloc (.cells (madeCells #[.int .i64 0,.int .i64 0,.slice none 0 0,.slice none 0 0] (16385*4)) 47)=q:=⟨_,rfl⟩
   rw [hWw8] at haw8 hnw8 hmk
   obtain⟨bm,hbm⟩: ∃ q,wq.heap.size=q:=⟨_,rfl⟩
   rw [hbm] at hnw8 hmk
   have rz:=Lib.hid (rruns_made 16385 hnw8)
   clear hWw8 hnw8 hbm
   have hq8:=Lib.hid (hq.out.trans (haw8.mono hq.out.size))
   clear haw8
   go_wp2_with fail
   refine any_one (i:=0) (by kernel_rfl) rfl ?_
   go_wp2_with fail
   refine(world19_any w8).mono ?_;rintro e w9 ⟨V8,rfl,hW8,hb8⟩
   have h79:=Lib.hid (hq8.out.trans (hb8.mono hq8.out.size))
   have hmk9:=Lib.hid (cmake_any M0 V8 (some ⟨bm,0,none⟩) 16385 16385 _ w9 hW8 few0 (hsH.out.below (hb7H.out.trans (h79.out.mono hb7H.out.size))) (rz.out.below hb8) (by decide))
   rw [resC_bad errL (by decide),errL] at hmk9
   clear hW8 hb8 rz
   go_wp2_with fail
   refine any_one (i:=2) (by kernel_rfl) rfl ?_
   go_wp2_with fail
   refine hmk9.out.mono ?_;rintro e w10 ⟨A10,c10,rfl,_,_,_,hb10⟩
   have h710:=Lib.hid (h79.out.trans (hb10.mono h79.out.size))
   clear hb10 hmk9
   go_wp2_with fail
   refine any_one (i:=3) (by kernel_rfl) rfl ?_
   go_wp2_with fail
   refine any_two (i:=4) (j:=5) (by kernel_rfl) rfl rfl ?_ ?_
   ·go_wp2_with fail
    refine any_two (i:=5) (j:=6) (by kernel_rfl) rfl rfl ?_ ?_
    ·go_wp2_with fail
     refine any_one (i:=6) (by kernel_rfl) rfl ?_
     go_wp2_with fail
     refine any_one (i:=7) (by kernel_rfl) rfl ?_
     go_wp2_with fail
     refine any_end (by kernel_rfl) ?_
     go_wp2_with fail
     go_meet
     exact⟨rfl,h710⟩
    ·go_wp2_with fail
     refine any_one (i:=5) (by kernel_rfl) rfl ?_
     go_wp2_with fail
     refine any_one (i:=7) (by kernel_rfl) rfl ?_
     go_wp2_with fail
     refine any_end (by kernel_rfl) ?_
     go_wp2_with fail
     go_meet
     exact⟨rfl,h710⟩
   ·go_wp2_with fail
    refine any_one (i:=4) (by kernel_rfl) rfl ?_
    go_wp2_with fail
    refine any_one (i:=6) (by kernel_rfl) rfl ?_
    go_wp2_with fail
    refine any_one (i:=7) (by kernel_rfl) rfl ?_
    go_wp2_with fail
    refine any_end (by kernel_rfl) ?_
    go_wp2_with fail
    go_meet
    exact⟨rfl,h710⟩
 case rest=>
  simp only [hC4]
  obtain⟨rfl,h7x⟩:=hcut
  have h3x:=Lib.hid (h37.out.trans (h7x.out.mono h37.out.size))
  have h5x:=Lib.hid (h57.out.trans (h7x.out.mono h57.out.size))
  have hex:=Lib.hid (hb7H.out.trans (h7x.out.mono hb7H.out.size))
  clear h37 h57 hb7H h7x
  obtain⟨wd,bd,hwd,hbdE,hbwd,Bwd⟩:=box1 wc 47 [.int .i64 0,.int .i64 0,.slice none 0 0,.slice none 0 0]
  have h3d:=Lib.hid (h3x.out.trans (hbwd.mono h3x.out.size))
  have h5d:=Lib.hid (h5x.out.trans (hbwd.mono h5x.out.size))
  have hed:=Lib.hid (hex.out.trans (hbwd.mono hex.out.size))
  have hmkz:=Lib.hid (cmake_any MZ VZ (some ⟨bd,0,none⟩) 1 1 [⟨0,0,[],[]⟩] wd (rwZ wd) fewZ (hsH.out.below hed.out) (rruns_one Bwd) (by decide))
  rw [resC_bad errZ (by decide),errZ] at hmkz
  clear Bwd hbwd h3x h5x hex
  go_wp2_with fail
  refine hmkz.out.mono ?_;rintro e w11 ⟨A11,c11,rfl,_,_,_,hb11⟩
  have h3a:=Lib.hid (h3d.out.trans (hb11.mono h3d.out.size))
  have h5a:=Lib.hid (h5d.out.trans (hb11.mono h5d.out.size))
  have hea:=Lib.hid (hed.out.trans (hb11.mono hed.out.size))
  clear hmkz hb11 h3d h5d hed hwd hbdE
  have hcutC:=conns_head A3 4 c3 3 (by omega)
  have rA:=Lib.hid (r3H.out.below h3a.out)
  have hto:Hid (∀ U,Below w11.heap.size w11 U→Calls Tryz.prog 22 #[.slice A3 4 c3,.int .i64 2] U fun e w'=> ∃ A c,e= .returned (.slice A 2 c)∧Below U.heap.size U w'):=fun U hU=>
   (cto_any A3 4 c3 C0 2 U (rA.out.below hU) (by decide)).mono fun e w' ⟨A,c,h1,h2,_,_,h3⟩=>⟨A,c,h1,h3⟩
  have hof:Hid (∀ U,Below w11.heap.size w11 U→Calls Tryz.prog 19 #[.slice A3 4 c3,.int .i64 1] U fun e w'=> ∃ A c,e= .returned (.slice A 2 c)∧Below U.heap.size U w'):=fun U hU=>
   (cof_any A3 4 c3 C0 1 U (rA.out.below hU) (by decide)).mono fun e w' ⟨A,c,h1,h2,_,_,h3⟩=>⟨A,c,h1,h3⟩
  have hfi:Hid (∀ U,Below w11.heap.size w11 U→Calls Tryz.prog 18 #[.slice A3 4 c3,.int .i64 100] U fun e w'=>e= .returned (.int .i64 4)∧Below U.heap.size U w'):=fun U hU=>
   (cfirst_any A3 4 c3 C0 100 U (rA.out.below hU) (by decide)).mono fun e w' h=>⟨by rw [h.1];rfl,h.2⟩
  have hs1:Hid (∀ U,Below w11.heap.size w11 U→Calls Tryz.prog 26 #[.slice A3 4 c3,.slice A3 4 c3] U fun e w'=>e= .returned (.bool true)∧Below U.heap.size U w'):=fun U hU=>
   (csame_any A3 4 c3 C0 A3 4 c3 C0 U (rA.out.below hU) (rA.out.below hU) (by decide) (by decide)).mono fun e w' h=>⟨by rw [h.1,decide_eq_true rfl],h.2⟩
  have hs2:Hid (∀ U,Below w11.heap.size w11 U→Calls Tryz.prog 26 #[.slice A3 4 c3,.slice A3 3 c3] U fun e w'=>e= .returned (.bool false)∧Below U.heap.size U w'):=fun U hU=>
   (csame_any A3 4 c3 C0 A3 3 c3 (C0.take 3) U (rA.out.below hU) ((rA.out.below hU).take (by decide)) (by decide) (by decide)).mono fun e w' h=>⟨by rw [h.1];rfl,h.2⟩
  obtain⟨b7,o7,y,hA7,hl7,hy,fy⟩:=rA.out.get (show 0<4 by decide)
  obtain rfl:(⟨5,8,0,1,0,0⟩:ConnP)=y:=Option.some.inj hy
  obtain⟨b6,o6,z,hA6,hl6,hz,fz⟩:=rA.out.get (show 1<4 by decide)
  obtain rfl:(⟨6,7,0,1,1,0⟩:ConnP)=z:=Option.some.inj hz
  subst hA7
  obtain⟨rfl,rfl⟩:b7=b6∧o7=o6:=by simpa using hA6
  have y0:w11.cell? ⟨b7,o7,none⟩=some (.int .i64 5):=fy 0 _ rfl
  have y1:w11.cell? ⟨b7,o7+1,none⟩=some (.int .i64 8):=fy 1 _ rfl
  have y2:w11.cell? ⟨b7,o7+2,none⟩=some (.int .i64 0):=fy 2 _ rfl
  have y3:w11.cell? ⟨b7,o7+3,none⟩=some (.int .i64 1):=fy 3 _ rfl
  have y4:w11.cell? ⟨b7,o7+4,none⟩=some (.int .i64 0):=fy 4 _ rfl
  have y5:w11.cell? ⟨b7,o7+5,none⟩=some (.int .i64 0):=fy 5 _ rfl
  have z0:w11.cell? ⟨b7,o7+6,none⟩=some (.int .i64 6):=fz 0 _ rfl
  have z1:w11.cell? ⟨b7,o7+7,none⟩=some (.int .i64 7):=fz 1 _ rfl
  have z2:w11.cell? ⟨b7,o7+8,none⟩=some (.int .i64 0):=fz 2 _ rfl
  have z3:w11.cell? ⟨b7,o7+9,none⟩=some (.int .i64 1):=fz 3 _ rfl
  have z4:w11.cell? ⟨b7,o7+10,none⟩=some (.int .i64 1):=fz 4 _ rfl
  have z5:w11.cell? ⟨b7,o7+11,none⟩=some (.int .i64 0):=fz 5 _ rfl
  have hR0:=hbad.out.below h5a.out
  obtain⟨b9,o9,r9,x1,m1,d1,x2,m2,d2,hA9,hl9,hr9,q0,q1,q2,q3,ra,rd,_,_⟩:=hR0.get (show 0<2 by decide)
  obtain⟨rfl,rfl⟩:b4=b9∧0=o9:=by simpa using hA9
  obtain rfl:(⟨0,0,[5,5,12],[5,9,12]⟩:RunP)=r9:=Option.some.inj hr9
  simp only [Nat.zero_add,Nat.zero_mul,Nat.one_mul,Nat.add_zero,Nat.reduceAdd] at q0 q1 q2 q3
  have raH:=Lib.hid ra
  have rdH:=Lib.hid rd
  clear fy fz hbad h3a h5a hR0 ra rd hy hz hA6 hA9 hr9
  go_wp2_with fail
  go_upto_region 7 with fail
  refine wp_region_lateRot w11.heap.size 22 3 (3::4::4::4::4::4::4::4::4::4::4::4::4::4::3::3::4::3::3::4::4::4::3::4::4::5::3::4::4::4::4::3::4::4::4::4::4::3::4::4::4::4::4::3::4::4::4::4::4::5::4::4::5::3::4::4::4::4::5::4::4::5::3::4::4::4::4::4::3::4::4::4::4::4::3::4::4::4::[]) (0::1::2::3::4::5::6::7::8::9::10::11::12::13::14::15::16::17::18::19::20::21::23::24::25::22::26::27::28::29::30::31::32::33::34::35::36::37::38::39::40::41::42::43::44::45::46::47::48::49::50::51::52::53::54::55::56::57::58::59::60::61::62::63::64::65::66::67::68::69::70::71::72::73::74::75::76::77::[]) (by kernel_rfl) (by kernel_rfl) (by kernel_rfl) (Nat.le_refl _) ?_
  intro C hC
  simp only [List.append_eq,List.cons_append,List.nil_append]
  simp only [pickK,pickT,rotT,insT,Nat.reduceLeDiff,Nat.reduceEqDiff, ↓reduceIte]
  refine wpQuiet_nil ?_
  clear hC
  intro C' hC'
  refine wpQuiet_nil ?_
  clear hC'
  intro wq hbq
  have cq:Hid (Below w11.heap.size w11 wq):=by rw [hbq];exact⟨rfl,rfl,rfl,Nat.le_refl _,fun _ _=>rfl⟩
  clear hbq
  refine wpTail5_one (by decide) (by decide) ?_
  go_wp2_with fail
  refine(lives19_any wq (hsH.out.below (hea.out.trans (cq.out.mono hea.out.size)))).mono ?_;rintro e w0 ⟨rfl,hb⟩
  have c0:Hid (Below w11.heap.size w11 w0):=cq.out.trans (hb.mono cq.out.size)
  clear hb cq
  go_wp2_with fail
  refine⟨fun _=>c0.out,?_⟩
  refine wpTail5_quiet ?_
  intro C' hC'
  repeat(go_big_quiet_step (first|(intro _;with_reducible rfl)))
  refine wpQuiet_nil ?_
  clear hC'
  refine wpTail5_quiet ?_
  intro C' hC'
  repeat(go_big_quiet_step (first|(intro _;with_reducible rfl)))
  refine wpQuiet_nil ?_
  clear hC'
  refine wpTail5_quiet ?_
  intro C' hC'
  repeat(go_big_quiet_step (first|(intro _;with_reducible rfl)))
  refine wpQuiet_nil ?_
  clear hC'
  refine wpTail5_quiet ?_
  intro C' hC'
  repeat(go_big_quiet_step (first|(intro _;with_reducible rfl)))
  refine wpQuiet_nil ?_
  clear hC'
  refine wpTail5_quiet ?_
  intro C' hC'
  repeat(go_big_quiet_step (first|(intro _;with_reducible rfl)))
  refine wpQuiet_nil ?_
  clear hC'
  refine wpTail5_quiet ?_
  intro C' hC'
  repeat(go_big_quiet_step (first|(intro _;with_reducible rfl)))
  refine wpQuiet_nil ?_
  clear hC'
  refine wpTail5_quiet ?_
  intro C' hC'
  repeat(go_big_quiet_step (first|(intro _;with_reducible rfl)))
  refine wpQuiet_nil ?_
  clear hC'
  refine wpTail5_quiet ?_
  intro C' hC'
  repeat(go_big_quiet_step (first|(intro _;with_reducible rfl)))
  refine wpQuiet_nil ?_
  clear hC'
  refine wpTail5_quiet ?_
  intro C' hC'
  repeat(go_big_quiet_step (first|(intro _;with_reducible rfl)))
  refine wpQuiet_nil ?_
  clear hC'
  refine wpTail5_quiet ?_
  intro C' hC'
  repeat(go_big_quiet_step (first|(intro _;with_reducible rfl)))
  refine wpQuiet_nil ?_
  clear hC'
  refine wpTail5_quiet ?_
  intro C' hC'
  repeat(go_big_quiet_step (first|(intro _;with_reducible rfl)))
  refine wpQuiet_nil ?_
  clear hC'
  refine wpTail5_quiet ?_
  intro C' hC'
  repeat(go_big_quiet_step (first|(intro _;with_reducible rfl)))
  refine wpQuiet_nil ?_
  clear hC'
  refine wpTail5_quiet ?_
  intro C' hC'
  repeat(go_big_quiet_step (first|(intro _;with_reducible rfl)))
  refine wpQuiet_nil ?_
  clear hC'
  refine wpTail5_one (by decide) (by decide) ?_
  go_wp2_with fail
  refine(world19_any w0).mono ?_;rintro e w14 ⟨V14,rfl,hW,hb⟩
  have c14:Hid (Below w11.heap.size w11 w14):=c0.out.trans (hb.mono c0.out.size)
  have hWH:=Lib.hid hW
  clear hW
  clear hb c0
  go_wp2_with fail
  refine⟨fun _=>c14.out,?_⟩
  refine wpTail5_one (by decide) (by decide) ?_
  go_wp2_with fail
  refine(runs19_any w14).mono ?_;rintro e w15 ⟨b',rfl,hR,hb⟩
  have c15:Hid (Below w11.heap.size w11 w15):=c14.out.trans (hb.mono c14.out.size)
  obtain⟨b5,o5,r5,x3,m3,d3,x4,m4,d4,hA5,hl5,hr5,p0,p1,p2,p3,ra,rd,_,_⟩:=hR.get (show 1<2 by decide)
  obtain⟨rfl,rfl⟩:b'=b5∧0=o5:=by simpa using hA5
  obtain rfl:(⟨1,0,[6,7,9],[6,7,9]⟩:RunP)=r5:=Option.some.inj hr5
  simp only [Nat.zero_add,Nat.zero_mul,Nat.one_mul,Nat.add_zero,Nat.reduceAdd] at p0 p1 p2 p3
  have hft:=Lib.hid (cFits_any M0 V14 w15 (hWH.out.below hb) few0 (hsH.out.below (hea.out.trans (c15.out.mono hea.out.size))) 1 0 x3 x4 m3 m4 d3 d4 [6,7,9] [6,7,9] ra rd)
  rw [fit01] at hft
  clear hWH hR ra rd hr5 hA5
  clear hb c14
  go_wp2_with fail
  refine⟨fun _=>c15.out,?_⟩
  refine wpTail5_quiet ?_
  intro C' hC'
  repeat(go_big_quiet_step (first|(intro _;with_reducible rfl)))
  refine wpQuiet_nil ?_
  clear hC'
  refine wpTail5_one (by decide) (by decide) ?_
  go_wp2_with fail
  refine⟨fun _=>c15.out,?_⟩
  refine wpTail5_one (by decide) (by decide) ?_
  go_wp2_with fail
  refine(hft.out).mono ?_;rintro e w18 ⟨rfl,hb⟩
  have c18:Hid (Below w11.heap.size w11 w18):=c15.out.trans (hb.mono c15.out.size)
  clear hft p0 p1 p2 p3 hl5
  clear hb c15
  go_wp2_with fail
  refine⟨fun _=>c18.out,?_⟩
  refine wpTail5_quiet ?_
  intro C' hC'
  repeat(go_big_quiet_step (first|(intro _;with_reducible rfl)))
  refine wpQuiet_nil ?_
  clear hC'
  refine wpTail5_quiet ?_
  intro C' hC'
  repeat(go_big_quiet_step (first|(intro _;with_reducible rfl)))
  refine wpQuiet_nil ?_
  clear hC'
  refine wpTail5_quiet ?_
  intro C' hC'
  repeat(go_big_quiet_step (first|(intro _;with_reducible rfl)))
  refine wpQuiet_nil ?_
  clear hC'
  refine wpTail5_quiet ?_
  intro C' hC'
  repeat(go_big_quiet_step (first|(intro _;with_reducible rfl)))
  refine wpQuiet_nil ?_
  clear hC'
  refine wpTail5_quiet ?_
  intro C' hC'
  repeat(go_big_quiet_step (first|(intro _;with_reducible rfl)))
  refine wpQuiet_nil ?_
  clear hC'
  refine wpTail5_read c18.out ?_
  intro C' hC'
  repeat(go_big_quiet_step (first
   |(intro _;with_reducible rfl)
   |(intro hc
     have m0:=(hc.cell (p:=⟨b4,_,none⟩) hl9).trans q0
     have m1:=(hc.cell (p:=⟨b4,_,none⟩) hl9).trans q1
     have m2:=(hc.cell (p:=⟨b4,_,none⟩) hl9).trans q2
     have m3:=(hc.cell (p:=⟨b4,_,none⟩) hl9).trans q3
     simp only [m0,m1,m2,m3,Result.andThen]
     exact⟨trivial,rfl⟩)))
  refine wpQuiet_nil ?_
  clear hC'
  refine wpTail5_one (by decide) (by decide) ?_
  go_wp2_with fail
  refine(world19_any w18).mono ?_;rintro e w22 ⟨V22,rfl,hW,hb⟩
  have c22:Hid (Below w11.heap.size w11 w22):=c18.out.trans (hb.mono c18.out.size)
  have hft:=Lib.hid (cFits_any M0 V22 w22 hW few0 (hsH.out.below (hea.out.trans (c22.out.mono hea.out.size))) 0 0 x1 x2 m1 m2 d1 d2 [5,5,12] [5,9,12] (raH.out.below c22.out) (rdH.out.below c22.out))
  rw [fit10] at hft
  clear hW
  clear hb c18
  go_wp2_with fail
  refine⟨fun _=>c22.out,?_⟩
  refine wpTail5_one (by decide) (by decide) ?_
  go_wp2_with fail
  refine(hft.out).mono ?_;rintro e w26 ⟨rfl,hb⟩
  have c26:Hid (Below w11.heap.size w11 w26):=c22.out.trans (hb.mono c22.out.size)
  clear hft
  clear hb c22
  go_wp2_with fail
  refine⟨fun _=>c26.out,?_⟩
  refine wpTail5_quiet ?_
  intro C' hC'
  repeat(go_big_quiet_step (first|(intro _;with_reducible rfl)))
  refine wpQuiet_nil ?_
  clear hC'
  refine wpTail5_quiet ?_
  intro C' hC'
  repeat(go_big_quiet_step (first|(intro _;with_reducible rfl)))
  refine wpQuiet_nil ?_
  clear hC'
  refine wpTail5_quiet ?_
  intro C' hC'
  repeat(go_big_quiet_step (first|(intro _;with_reducible rfl)))
  refine wpQuiet_nil ?_
  clear hC'
  refine wpTail5_quiet ?_
  intro C' hC'
  repeat(go_big_quiet_step (first|(intro _;with_reducible rfl)))
  refine wpQuiet_nil ?_
  clear hC'
  refine wpTail5_one (by decide) (by decide) ?_
  go_wp2_with fail
  refine(hto.out w26 c26.out).mono ?_;rintro e w31 ⟨A31,c31',rfl,hb⟩
  have c31:Hid (Below w11.heap.size w11 w31):=c26.out.trans (hb.mono c26.out.size)
  clear hb c26
  go_wp2_with fail
  refine⟨fun _=>c31.out,?_⟩
  refine wpTail5_quiet ?_
  intro C' hC'
  repeat(go_big_quiet_step (first|(intro _;with_reducible rfl)))
  refine wpQuiet_nil ?_
  clear hC'
  refine wpTail5_quiet ?_
  intro C' hC'
  repeat(go_big_quiet_step (first|(intro _;with_reducible rfl)))
  refine wpQuiet_nil ?_
  clear hC'
  refine wpTail5_quiet ?_
  intro C' hC'
  repeat(go_big_quiet_step (first|(intro _;with_reducible rfl)))
  refine wpQuiet_nil ?_
  clear hC'
  refine wpTail5_quiet ?_
  intro C' hC'
  repeat(go_big_quiet_step (first|(intro _;with_reducible rfl)))
  refine wpQuiet_nil ?_
  clear hC'
  refine wpTail5_quiet ?_
  intro C' hC'
  repeat(go_big_quiet_step (first|(intro _;with_reducible rfl)))
  refine wpQuiet_nil ?_
  clear hC'
  refine wpTail5_one (by decide) (by decide) ?_
  go_wp2_with fail
  refine(hof.out w31 c31.out).mono ?_;rintro e w37 ⟨A37,c37',rfl,hb⟩
  have c37:Hid (Below w11.heap.size w11 w37):=c31.out.trans (hb.mono c31.out.size)
  clear hb c31
  go_wp2_with fail
  refine⟨fun _=>c37.out,?_⟩
  refine wpTail5_quiet ?_
  intro C' hC'
  repeat(go_big_quiet_step (first|(intro _;with_reducible rfl)))
  refine wpQuiet_nil ?_
  clear hC'
  refine wpTail5_quiet ?_
  intro C' hC'
  repeat(go_big_quiet_step (first|(intro _;with_reducible rfl)))
  refine wpQuiet_nil ?_
  clear hC'
  refine wpTail5_quiet ?_
  intro C' hC'
  repeat(go_big_quiet_step (first|(intro _;with_reducible rfl)))
  refine wpQuiet_nil ?_
  clear hC'
  refine wpTail5_quiet ?_
  intro C' hC'
  repeat(go_big_quiet_step (first|(intro _;with_reducible rfl)))
  refine wpQuiet_nil ?_
  clear hC'
  refine wpTail5_quiet ?_
  intro C' hC'
  repeat(go_big_quiet_step (first|(intro _;with_reducible rfl)))
  refine wpQuiet_nil ?_
  clear hC'
  refine wpTail5_one (by decide) (by decide) ?_
  go_wp2_with fail
  refine(hfi.out w37 c37.out).mono ?_;rintro e w43 ⟨rfl,hb⟩
  have c43:Hid (Below w11.heap.size w11 w43):=c37.out.trans (hb.mono c37.out.size)
  clear hb c37
  go_wp2_with fail
  refine⟨fun _=>c43.out,?_⟩
  refine wpTail5_quiet ?_
  intro C' hC'
  repeat(go_big_quiet_step (first|(intro _;with_reducible rfl)))
  refine wpQuiet_nil ?_
  clear hC'
  refine wpTail5_quiet ?_
  intro C' hC'
  repeat(go_big_quiet_step (first|(intro _;with_reducible rfl)))
  refine wpQuiet_nil ?_
  clear hC'
  refine wpTail5_quiet ?_
  intro C' hC'
  repeat(go_big_quiet_step (first|(intro _;with_reducible rfl)))
  refine wpQuiet_nil ?_
  clear hC'
  refine wpTail5_quiet ?_
  intro C' hC'
  repeat(go_big_quiet_step (first|(intro _;with_reducible rfl)))
  refine wpQuiet_nil ?_
  clear hC'
  refine wpTail5_quiet ?_
  intro C' hC'
  repeat(go_big_quiet_step (first|(intro _;with_reducible rfl)))
  refine wpQuiet_nil ?_
  clear hC'
  refine wpTail5_read c43.out ?_
  intro C' hC'
  repeat(go_big_quiet_step (first
   |(intro _;with_reducible rfl)
   |(intro hc
     have m0:=(hc.cell (p:=⟨b7,_,none⟩) hl7).trans y0
     have m1:=(hc.cell (p:=⟨b7,_,none⟩) hl7).trans y1
     have m2:=(hc.cell (p:=⟨b7,_,none⟩) hl7).trans y2
     have m3:=(hc.cell (p:=⟨b7,_,none⟩) hl7).trans y3
     have m4:=(hc.cell (p:=⟨b7,_,none⟩) hl7).trans y4
     have m5:=(hc.cell (p:=⟨b7,_,none⟩) hl7).trans y5
     simp only [m0,m1,m2,m3,m4,m5,Result.andThen]
     exact⟨trivial,rfl⟩)))
  refine wpQuiet_nil ?_
  clear hC'
  refine wpTail5_quiet ?_
  intro C' hC'
  repeat(go_big_quiet_step (first|(intro _;with_reducible rfl)))
  refine wpQuiet_nil ?_
  clear hC'
  refine wpTail5_quiet ?_
  intro C' hC'
  repeat(go_big_quiet_step (first|(intro _;with_reducible rfl)))
  refine wpQuiet_nil ?_
  clear hC'
  refine wpTail5_read c43.out ?_
  intro C' hC'
  repeat(go_big_quiet_step (first
   |(intro _;with_reducible rfl)
   |(intro hc
     have m0:=(hc.cell (p:=⟨b7,_,none⟩) hl7).trans z0
     have m1:=(hc.cell (p:=⟨b7,_,none⟩) hl7).trans z1
     have m2:=(hc.cell (p:=⟨b7,_,none⟩) hl7).trans z2
     have m3:=(hc.cell (p:=⟨b7,_,none⟩) hl7).trans z3
     have m4:=(hc.cell (p:=⟨b7,_,none⟩) hl7).trans z4
     have m5:=(hc.cell (p:=⟨b7,_,none⟩) hl7).trans z5
     simp only [m0,m1,m2,m3,m4,m5,Result.andThen]
     exact⟨trivial,rfl⟩)))
  refine wpQuiet_nil ?_
  clear hC'
  refine wpTail5_one (by decide) (by decide) ?_
  go_wp2_with fail
  refine(less01 w43).mono ?_;rintro e w53 ⟨rfl,hb⟩
  have c53:Hid (Below w11.heap.size w11 w53):=c43.out.trans (hb.mono c43.out.size)
  clear hb c43
  go_wp2_with fail
  refine⟨fun _=>c53.out,?_⟩
  refine wpTail5_quiet ?_
  intro C' hC'
  repeat(go_big_quiet_step (first|(intro _;with_reducible rfl)))
  refine wpQuiet_nil ?_
  clear hC'
  refine wpTail5_quiet ?_
  intro C' hC'
  repeat(go_big_quiet_step (first|(intro _;with_reducible rfl)))
  refine wpQuiet_nil ?_
  clear hC'
  refine wpTail5_quiet ?_
  intro C' hC'
  repeat(go_big_quiet_step (first|(intro _;with_reducible rfl)))
  refine wpQuiet_nil ?_
  clear hC'
  refine wpTail5_quiet ?_
  intro C' hC'
  repeat(go_big_quiet_step (first|(intro _;with_reducible rfl)))
  refine wpQuiet_nil ?_
  clear hC'
  refine wpTail5_read c53.out ?_
  intro C' hC'
  repeat(go_big_quiet_step (first
   |(intro _;with_reducible rfl)
   |(intro hc
     have m0:=(hc.cell (p:=⟨b7,_,none⟩) hl7).trans z0
     have m1:=(hc.cell (p:=⟨b7,_,none⟩) hl7).trans z1
     have m2:=(hc.cell (p:=⟨b7,_,none⟩) hl7).trans z2
     have m3:=(hc.cell (p:=⟨b7,_,none⟩) hl7).trans z3
     have m4:=(hc.cell (p:=⟨b7,_,none⟩) hl7).trans z4
     have m5:=(hc.cell (p:=⟨b7,_,none⟩) hl7).trans z5
     simp only [m0,m1,m2,m3,m4,m5,Result.andThen]
     exact⟨trivial,rfl⟩)))
  refine wpQuiet_nil ?_
  clear hC'
  refine wpTail5_quiet ?_
  intro C' hC'
  repeat(go_big_quiet_step (first|(intro _;with_reducible rfl)))
  refine wpQuiet_nil ?_
  clear hC'
  refine wpTail5_quiet ?_
  intro C' hC'
  repeat(go_big_quiet_step (first|(intro _;with_reducible rfl)))
  refine wpQuiet_nil ?_
  clear hC'
  refine wpTail5_read c53.out ?_
  intro C' hC'
  repeat(go_big_quiet_step (first
   |(intro _;with_reducible rfl)
   |(intro hc
     have m0:=(hc.cell (p:=⟨b7,_,none⟩) hl7).trans z0
     have m1:=(hc.cell (p:=⟨b7,_,none⟩) hl7).trans z1
     have m2:=(hc.cell (p:=⟨b7,_,none⟩) hl7).trans z2
     have m3:=(hc.cell (p:=⟨b7,_,none⟩) hl7).trans z3
     have m4:=(hc.cell (p:=⟨b7,_,none⟩) hl7).trans z4
     have m5:=(hc.cell (p:=⟨b7,_,none⟩) hl7).trans z5
     simp only [m0,m1,m2,m3,m4,m5,Result.andThen]
     exact⟨trivial,rfl⟩)))
  refine wpQuiet_nil ?_
  clear hC'
  refine wpTail5_one (by decide) (by decide) ?_
  go_wp2_with fail
  refine(less11 w53).mono ?_;rintro e w62 ⟨rfl,hb⟩
  have c62:Hid (Below w11.heap.size w11 w62):=c53.out.trans (hb.mono c53.out.size)
  clear hb c53
  go_wp2_with fail
  refine⟨fun _=>c62.out,?_⟩
  refine wpTail5_quiet ?_
  intro C' hC'
  repeat(go_big_quiet_step (first|(intro _;with_reducible rfl)))
  refine wpQuiet_nil ?_
  clear hC'
  refine wpTail5_quiet ?_
  intro C' hC'
  repeat(go_big_quiet_step (first|(intro _;with_reducible rfl)))
  refine wpQuiet_nil ?_
  clear hC'
  refine wpTail5_quiet ?_
  intro C' hC'
  repeat(go_big_quiet_step (first|(intro _;with_reducible rfl)))
  refine wpQuiet_nil ?_
  clear hC'
  refine wpTail5_quiet ?_
  intro C' hC'
  repeat(go_big_quiet_step (first|(intro _;with_reducible rfl)))
  refine wpQuiet_nil ?_
  clear hC'
  refine wpTail5_quiet ?_
  intro C' hC'
  repeat(go_big_quiet_step (first|(intro _;with_reducible rfl)))
  refine wpQuiet_nil ?_
  clear hC'
  refine wpTail5_one (by decide) (by decide) ?_
  go_wp2_with fail
  refine(hs1.out w62 c62.out).mono ?_;rintro e w68 ⟨rfl,hb⟩
  have c68:Hid (Below w11.heap.size w11 w68):=c62.out.trans (hb.mono c62.out.size)
  clear hb c62
  go_wp2_with fail
  refine⟨fun _=>c68.out,?_⟩
  refine wpTail5_quiet ?_
  intro C' hC'
  repeat(go_big_quiet_step (first|(intro _;with_reducible rfl)))
  refine wpQuiet_nil ?_
  clear hC'
  refine wpTail5_quiet ?_
  intro C' hC'
  repeat(go_big_quiet_step (first|(intro _;with_reducible rfl)))
  refine wpQuiet_nil ?_
  clear hC'
  refine wpTail5_quiet ?_
  intro C' hC'
  repeat(go_big_quiet_step (first|(intro _;with_reducible rfl)))
  refine wpQuiet_nil ?_
  clear hC'
  refine wpTail5_quiet ?_
  intro C' hC'
  repeat(go_big_quiet_step (first|(intro _;with_reducible rfl)))
  refine wpQuiet_nil ?_
  clear hC'
  refine wpTail5_quiet ?_
  intro C' hC'
  repeat(go_big_quiet_step (first|(intro _;with_reducible rfl)|(intro hc;simp only [hcutC,Result.andThen];exact⟨trivial,rfl⟩)))
  refine wpQuiet_nil ?_
  clear hC'
  refine wpTail5_one (by decide) (by decide) ?_
  go_wp2_with fail
  refine(hs2.out w68 c68.out).mono ?_;rintro e w74 ⟨rfl,hb⟩
  have c74:Hid (Below w11.heap.size w11 w74):=c68.out.trans (hb.mono c68.out.size)
  clear hb c68
  go_wp2_with fail
  refine⟨fun _=>c74.out,?_⟩
  refine wpTail5_quiet ?_
  intro C' hC'
  repeat(go_big_quiet_step (first|(intro _;with_reducible rfl)))
  refine wpQuiet_nil ?_
  clear hC'
  refine wpTail5_quiet ?_
  intro C' hC'
  repeat(go_big_quiet_step (first|(intro _;with_reducible rfl)))
  refine wpQuiet_nil ?_
  clear hC'
  refine wpTail5_quiet ?_
  intro C' hC'
  repeat(go_big_quiet_step (first|(intro _;with_reducible rfl)))
  refine wpQuiet_nil ?_
  clear hC'
  refine wpTail5_list _ _ _ (by simp) ?_
  simp only [List.map_nil]
  go_wp2_with fail
  go_returns
  exact⟨rfl,(hea.out.trans (c74.out.mono hea.out.size))⟩
end Go.Proofs.YtechdefolfboeaaGreatDoor
