/- Merged. -/
import Derived.Test.YtechdefolfboeaaGreatDoorPo42
set_option linter.unusedVariables false
set_option linter.unusedSimpArgs false
set_option maxHeartbeats 4000000
namespace Go.Proofs.YtechdefolfboeaaGreatDoor
open Go.RowKit B
def RetNames (X:SheetP) (we:World) (e:Ending) (w':World):Prop:= ∃ b0 b1 b2 b3 b4 b5:Option Addr, ∃ k0 k1 k2 k3 k4 k5:Nat,e= .returned (.agg #[.slice b0 X.stops.length k0,.slice b1 X.paths.length k1,.slice b2 X.doors.length k2,.slice b3 X.routes.length k3,.slice b4 X.trips.length k4,.slice b5 X.hazs.length k5])∧
 Rd w' 1 strE b0 X.stops.length X.stops∧Rd w' 1 strE b1 X.paths.length (X.paths.map (·.name))∧Rd w' 1 strE b2 X.doors.length (X.doors.map (·.name))∧Rd w' 1 strE b3 X.routes.length (X.routes.map (·.name))∧Rd w' 1 strE b4 X.trips.length (X.trips.map (·.name))∧Rd w' 1 strE b5 X.hazs.length (X.hazs.map (·.name))∧Below we.heap.size we w'
set_option maxRecDepth 100000 in
theorem named_any (X:SheetP) (V:SV) (we:World) (hr:RS we X V) (hf:FewS X):Calls Tryz.prog 216 #[sVal X V] we (RetNames X we):=by
 obtain⟨a0,aP,aD,aR,aT,aH,n0,nP,nD,nR,nT,nH,c0,cP,cD,cR,cT,cH⟩:=V;have LP:Hid (X.paths.length=nP):=hr.rP.len;have LD:Hid (X.doors.length=nD):=hr.rD.len;have LR:Hid (X.routes.length=nR):=hr.rR.len;have LT:Hid (X.trips.length=nT):=hr.rT.len;have LH:Hid (X.hazs.length=nH):=hr.rH.len;have L0:Hid (X.stops.length=n0):=hr.r0.len;have m0:n0≤100000:=by have:=hf.s0;have:=L0.out;omega
 have mP:nP≤100000:=by have:=hf.sP;have:=LP.out;omega
 have mD:nD≤100000:=by have:=hf.sD;have:=LD.out;omega
 have mR:nR≤100000:=by have:=hf.sR;have:=LR.out;omega
 have mT:nT≤100000:=by have:=hf.sT;have:=LT.out;omega
 have mH:nH≤100000:=by have:=hf.sH;have:=LH.out;omega
 simp only [sVal];have hb1:=below_alloc we #[.int .i64 X.hz,.slice a0 n0 c0,.slice aP nP cP,.slice aD nD cD,.slice aR nR cR,.slice aT nT cT,.slice aH nH cH] 136;have B1:=Bx.new we 136 [.int .i64 X.hz,.slice a0 n0 c0,.slice aP nP cP,.slice aD nD cD,.slice aR nR cR,.slice aT nT cT,.slice aH nH cH];obtain⟨w1,hw1⟩: ∃ q,we.alloc (.cells #[.int .i64 X.hz,.slice a0 n0 c0,.slice aP nP cP,.slice aD nD cD,.slice aR nR cR,.slice aT nT cT,.slice aH nH cH] 136)=q:=⟨_,rfl⟩
 rw [hw1] at hb1;change Bx (we.alloc (.cells #[.int .i64 X.hz,.slice a0 n0 c0,.slice aP nP cP,.slice aD nD cD,.slice aR nR cR,.slice aT nT cT,.slice aH nH cH] 136)) _ _ _ at B1;rw [hw1] at B1;have hbq0:=below_alloc w1 #[.slice none 0 0,.slice none 0 0,.slice none 0 0,.slice none 0 0,.slice none 0 0,.slice none 0 0] 24;have Bq:=Bx.new w1 24 [.slice none 0 0,.slice none 0 0,.slice none 0 0,.slice none 0 0,.slice none 0 0,.slice none 0 0];obtain⟨w2,hw2⟩: ∃ q,w1.alloc (.cells #[.slice none 0 0,.slice none 0 0,.slice none 0 0,.slice none 0 0,.slice none 0 0,.slice none 0 0] 24)=q:=⟨_,rfl⟩
 rw [hw2] at hbq0;change Bx (w1.alloc (.cells #[.slice none 0 0,.slice none 0 0,.slice none 0 0,.slice none 0 0,.slice none 0 0,.slice none 0 0] 24)) _ _ _ at Bq;rw [hw2] at Bq;have B1':=B1.below hbq0;obtain⟨bn,hbn⟩: ∃ q,we.heap.size=q:=⟨_,rfl⟩
 obtain⟨bq,hq1⟩: ∃ q,bn+1=q:=⟨_,rfl⟩
 have hbqE:w1.heap.size=bq:=by rw [←hq1,←hbn,←hw1];simp
 rw [hbn] at B1';rw [hbqE] at Bq;have hbeq:Hid (we.heap.size≤bq):=by have:=hb1.size;show _≤_;omega
 have hup:Hid (∀ U,Below w2.heap.size w2 U→Below we.heap.size we U):=fun U hU=>u_ hb1 (hbq0.trans (hU.mono hbq0.size));have hR:=(hr.below hb1).below hbq0;have hr0:Hid (Rd w2 1 strE a0 n0 X.stops):=hR.r0;have hrP:Hid (Rd w2 4 spathE aP nP X.paths):=hR.rP;have hrD:Hid (Rd w2 7 sdoorE aD nD X.doors):=hR.rD;have hrR:Hid (RSRoutes w2 aR nR X.routes):=hR.rR;have hrT:Hid (Rd w2 5 stripE aT nT X.trips):=hR.rT;have hrH:Hid (Rd w2 5 shazE aH nH X.hazs):=hR.rH;have p1:=B1'.cell 1 rfl;have hbl3:=below_alloc w2 #[] 9;have p1':=(B1'.below hbl3).cell 1 rfl;obtain⟨v0,w4,hrun,own,hb4⟩:=own_copy (base:=w2.heap.size) (g:=w2.heap.size) Tryz.underlying22 info_tStr rfl (by decide) strE_len c0 (own_lit0 w2 w2.heap.size 9 1 (Nat.le_refl _)) (hr0.out.below hbl3) (by omega) (by decide) hbl3.size;obtain⟨AS,xS,hv0,_⟩:=Rd.of_own strE_len L0.out own;subst hv0;have hbel:Below w2.heap.size w2 w4:=u_ hbl3 hb4
 have hBz:=Bx.new w4 24 [.slice none 0 0,.slice none 0 0,.slice none 0 0,.slice none 0 0,.slice none 0 0,.slice none 0 0];have hb5:=below_alloc w4 #[.slice none 0 0,.slice none 0 0,.slice none 0 0,.slice none 0 0,.slice none 0 0,.slice none 0 0] 24;have own4:=own.alloc (.cells #[.slice none 0 0,.slice none 0 0,.slice none 0 0,.slice none 0 0,.slice none 0 0,.slice none 0 0] 24);obtain⟨w5,hw5⟩: ∃ q,w4.alloc (.cells #[.slice none 0 0,.slice none 0 0,.slice none 0 0,.slice none 0 0,.slice none 0 0,.slice none 0 0] 24)=q:=⟨_,rfl⟩
 change Bx (w4.alloc (.cells #[.slice none 0 0,.slice none 0 0,.slice none 0 0,.slice none 0 0,.slice none 0 0,.slice none 0 0] 24)) _ _ _ at hBz;rw [hw5] at hBz hb5 own4;obtain⟨bo,hbo⟩: ∃ q,w4.heap.size=q:=⟨_,rfl⟩
 rw [hbo] at hBz;obtain⟨hB,hbF⟩:=hBz.row [.slice AS n0 xS,.slice none 0 0,.slice none 0 0,.slice none 0 0,.slice none 0 0,.slice none 0 0];obtain⟨wi0,hwi0⟩: ∃ q,w5.setRow bo (List.toArray [.slice AS n0 xS,.slice none 0 0,.slice none 0 0,.slice none 0 0,.slice none 0 0,.slice none 0 0])=q:=⟨_,rfl⟩
 rw [hwi0] at hB hbF;have own5:=own_box own4 hBz (by decide) hbF;have hbon:w2.heap.size≤bo:=by rw [←hbo];exact hbel.size
 have hb45:=u_ hbel hb5;have hbel5:Below w2.heap.size w2 wi0:=hb45.trans (hbF.below hb45.size (m_ hbon));obtain⟨uS,huS0⟩: ∃ q,Value.slice AS n0 xS=q:=⟨_,rfl⟩
 have hB':=hB;rw [huS0] at own5 hB';have huS:Hid (wi0.ownsRow w2.heap.size 9 1 uS n0 (X.stops.flatMap strE)):=own5;have hbx:Hid (Bx wi0 bo 24 [uS,.slice none 0 0,.slice none 0 0,.slice none 0 0,.slice none 0 0,.slice none 0 0]):=hB';have hbol:Hid (bo<wi0.heap.size):=hB.lt;have hlow:Hid (∀ U,But wi0 U [bo]→Below w2.heap.size w2 U):=fun U hU=>hbel5.trans (hU.below hbel5.size (m_ hbon));have hQQ:Hid (∀ U,But wi0 U [bo]→Bx U bq 24 [.slice none 0 0,.slice none 0 0,.slice none 0 0,.slice none 0 0,.slice none 0 0,.slice none 0 0]):=fun U hU=>Bq.below (hlow.out U hU);have hwi:Hid (But wi0 wi0 [bo]):=But.refl _ _;have B1:=H_ B1';rename_i b1X;clear b1X hr hf hb1 hbq0 B1' Bq hR hbl3 own hb4 hbel hB hB' huS0 hb5 own5 hbon hbel5 own4 hb45 hbF;go_enter Tryz.func216,Tryz.ntmps216
 go_wp2_with (first|(at_builtin;refine wpList_append_run ?z1 (.tmp 9) (.tmp 11) 22 ?z2 ?z3 ?z4 hrun ?_)|(with_reducible refine wpList_store_bx (.tmp 3) (.tmp 13) 24 (by with_reducible rfl) ?x1 ?x2 ?x3 hBz ?x4 ?x5 ?x6 hwi0 ?_))
 all_goals try rfl
 all_goals try kernel_rfl
 clear hrun hBz hw5 hw1 hw2 hbn hq1 hbqE hbo p1 p1' hwi0;go_wp2_with fail;go_loopw [4] (fun iv wr=> ∃ (i:Nat) (u:Value),i≤nP∧iv= .int .i64 i∧Hid (Bx wr bo 24 [uS,u,.slice none 0 0,.slice none 0 0,.slice none 0 0,.slice none 0 0])∧Hid (wr.ownsRow wi0.heap.size 9 1 u i (((X.paths.take i).map (·.name)).flatMap strE))∧Hid (But wi0 wr [bo])) (fun iv _=>nP-(intOf iv).toNat)
 case atStart=>exact⟨0,.slice none 0 0,Nat.zero_le _,rfl,hbx,World.ownsRow_nil _ _ _ _,But.refl _ _⟩
 case round=>
  obtain⟨i,u,hi,rfl,hbxi,own,hbut⟩:=hrel;have hlowi:=hlow.out _ (hwi.out.trans hbut.out);have y0:=(B1.out.below hlowi).cell 2 rfl;by_cases hin:i<nP
  ·have hinI:(i:Int)<(nP:Int):=by omega
   obtain⟨b,o,⟨q0,q1,q2,q3⟩,rfl,hbs,hx,hc0⟩:=hrP.out.get hin;have f0:=hc0 0 _ rfl;simp only [Nat.add_zero] at f0;clear hc0;have hsn:(X.paths.take (i+1)).map (·.name)=(X.paths.take i).map (·.name)++[q0]:=by rw [take_at hx,List.map_append,List.map_singleton]
   have hlen:((X.paths.take i).map (·.name)).length =i:=by rw [List.length_map,List.length_take,LP.out];omega
   clear hx;go_wp2_with fail;go_upto_region 5 with fail;refine wp_region_late [0,0,0,0,0,0,0,0,2,2,2,2] (by kernel_rfl) (by kernel_rfl) ?_;intro C hC;simp only [pickK,Nat.reduceEqDiff, ↓reduceIte]
   repeat(go_big_quiet_step (first
    |(intro _;with_reducible rfl)
    |(intro hc;have hR:=hwi.out.trans (hbut.out.trans (But.of_below hc _));have hbw:=hlow.out _ hR;have m0:=(hbxi.out.below hc).cell 1 rfl;have m1:=(B1.out.below hbw).cell 2 rfl;have m2:=c_ hbw hbs f0;simp only [m0,m1,m2,Result.andThen];exact⟨trivial,rfl⟩)))
   refine wpQuiet_nil ?_;clear hC;intro C' hC';refine wpQuiet_nil ?_;clear hC';intro wq hbq;obtain⟨W1,W2,W3,va,vb,h1,h2,h3,⟨_,b2,b3⟩,⟨_,_,t3⟩,_,hrun,own3,gv,cv,hvb⟩:=stepW (enc:=strE) Tryz.underlying22 info_tStr rfl (by decide) strE_len strE_one (by decide) (f:=1) (T:=24) q0 (hbxi.out.below hbq) (own_below own.out hbq) hlen (by omega) hbol.out (hbut.out.trans (But.of_below hbq _));rw [←hsn] at own3;have own3:=H_ own3;have hb3:Hid (Bx W3 bo 24 [uS,vb,.slice none 0 0,.slice none 0 0,.slice none 0 0,.slice none 0 0]):=b3;have ht3:=H_ t3;have v5:=b2.cell 1 rfl;have v6:=b2.frozen 1;subst h1 h2 hvb;have hrun:(Builtin.append_ #[22,22] 22 #[u,.slice (some ⟨wq.heap.size,0,none⟩) 1 1]).run Tryz.prog (wq.alloc (.cells #[.string q0] 9))= .ok (.slice (some ⟨gv,0,none⟩) (i+1) cv) W2:=hrun;rename_i k1 k2 k3 k4;clear k1 k2 k3 k4 hsn hlen b2 b3 t3 own hbxi hbut hbq hlowi
   go_wp2_with (at_builtin;refine wpList_append_run ?nP1 (.tmp 22) (.tmp 29) 22 ?nP2 ?nP3 ?nP4 hrun ?_)
   case nP1=>rfl
   case nP2=>rfl
   try(case nP3=>rfl)
   try(case nP4=>rfl)
   go_roundw
   case rel=>exact⟨i+1,_,by omega,by go_num,hb3,own3,ht3⟩
   case measure=>simp [intOf];omega
  ·obtain rfl:nP=i:=by omega
   have hup2: ∀ {z m:Nat} {v:Value} {xs:List Value} {b:Nat},wi0.ownsRow b 9 z v m xs→wr.ownsRow b 9 z v m xs:=fun h=>own_box h hbx.out (by decide) hbut.out;have huS':=H_ (hup2 huS.out);have huP:Hid (wr.ownsRow wi0.heap.size 9 1 u nP ((X.paths.map (·.name)).flatMap strE)):=by have:=own.out;rw [List.take_of_length_le (by rw [LP.out];omega)] at this;exact this
   have hwi':=H_ (hwi.out.trans hbut.out);have hbx':=hbxi;have hbol':Hid (bo<wr.heap.size):=hbxi.out.lt;obtain⟨uP,huuP⟩: ∃ q,q=u:=⟨_,rfl⟩
   subst huuP;obtain⟨wi1,hwwi1⟩: ∃ q,q=wr:=⟨_,rfl⟩
   subst hwwi1;clear hup2 own hbxi hbut hwi hbx hbol hi hin hlowi;clear huS;have huS:=huS';have hwi:=hwi';have hbx:=hbx';have hbol:=hbol';clear hwi' hbx' hbol' huS';go_wp2_with fail;go_loopw [5] (fun iv wr=> ∃ (i:Nat) (u:Value),i≤nD∧iv= .int .i64 i∧Hid (Bx wr bo 24 [uS,uP,u,.slice none 0 0,.slice none 0 0,.slice none 0 0])∧Hid (wr.ownsRow wi1.heap.size 9 1 u i (((X.doors.take i).map (·.name)).flatMap strE))∧Hid (But wi1 wr [bo])) (fun iv _=>nD-(intOf iv).toNat)
   case atStart=>exact⟨0,.slice none 0 0,Nat.zero_le _,rfl,hbx,World.ownsRow_nil _ _ _ _,But.refl _ _⟩
   case round=>
    obtain⟨i,u,hi,rfl,hbxi,own,hbut⟩:=hrel;have hlowi:=hlow.out _ (hwi.out.trans hbut.out);have y0:=(B1.out.below hlowi).cell 3 rfl;by_cases hin:i<nD
    ·have hinI:(i:Int)<(nD:Int):=by omega
     obtain⟨b,o,⟨q0,q1,q2,q3,q4,q5,q6⟩,rfl,hbs,hx,hc0⟩:=hrD.out.get hin;have f0:=hc0 0 _ rfl;simp only [Nat.add_zero] at f0;clear hc0;have hsn:(X.doors.take (i+1)).map (·.name)=(X.doors.take i).map (·.name)++[q0]:=by rw [take_at hx,List.map_append,List.map_singleton]
     have hlen:((X.doors.take i).map (·.name)).length =i:=by rw [List.length_map,List.length_take,LD.out];omega
     clear hx;go_wp2_with fail;go_upto_region 9 with fail;refine wp_region_late [0,0,0,0,0,0,0,0,2,2,2,2] (by kernel_rfl) (by kernel_rfl) ?_;intro C hC;simp only [pickK,Nat.reduceEqDiff, ↓reduceIte]
     repeat(go_big_quiet_step (first
      |(intro _;with_reducible rfl)
      |(intro hc;have hR:=hwi.out.trans (hbut.out.trans (But.of_below hc _));have hbw:=hlow.out _ hR;have m0:=(hbxi.out.below hc).cell 2 rfl;have m1:=(B1.out.below hbw).cell 3 rfl;have m2:=c_ hbw hbs f0;simp only [m0,m1,m2,Result.andThen];exact⟨trivial,rfl⟩)))
     refine wpQuiet_nil ?_;clear hC;intro C' hC';refine wpQuiet_nil ?_;clear hC';intro wq hbq;obtain⟨W1,W2,W3,va,vb,h1,h2,h3,⟨_,b2,b3⟩,⟨_,_,t3⟩,_,hrun,own3,gv,cv,hvb⟩:=stepW (enc:=strE) Tryz.underlying22 info_tStr rfl (by decide) strE_len strE_one (by decide) (f:=2) (T:=24) q0 (hbxi.out.below hbq) (own_below own.out hbq) hlen (by omega) hbol.out (hbut.out.trans (But.of_below hbq _));rw [←hsn] at own3;have own3:=H_ own3;have hb3:Hid (Bx W3 bo 24 [uS,uP,vb,.slice none 0 0,.slice none 0 0,.slice none 0 0]):=b3;have ht3:=H_ t3;have v5:=b2.cell 2 rfl;have v6:=b2.frozen 2;subst h1 h2 hvb;have hrun:(Builtin.append_ #[22,22] 22 #[u,.slice (some ⟨wq.heap.size,0,none⟩) 1 1]).run Tryz.prog (wq.alloc (.cells #[.string q0] 9))= .ok (.slice (some ⟨gv,0,none⟩) (i+1) cv) W2:=hrun;rename_i k1 k2 k3 k4;clear k1 k2 k3 k4 hsn hlen b2 b3 t3 own hbxi hbut hbq hlowi
     go_wp2_with (at_builtin;refine wpList_append_run ?nD1 (.tmp 40) (.tmp 47) 22 ?nD2 ?nD3 ?nD4 hrun ?_)
     case nD1=>rfl
     case nD2=>rfl
     try(case nD3=>rfl)
     try(case nD4=>rfl)
     go_roundw
     case rel=>exact⟨i+1,_,by omega,by go_num,hb3,own3,ht3⟩
     case measure=>simp [intOf];omega
    ·obtain rfl:nD=i:=by omega
     have hup2: ∀ {z m:Nat} {v:Value} {xs:List Value} {b:Nat},wi1.ownsRow b 9 z v m xs→wr.ownsRow b 9 z v m xs:=fun h=>own_box h hbx.out (by decide) hbut.out;have huS':=H_ (hup2 huS.out);have huP':=H_ (hup2 huP.out);have huD:Hid (wr.ownsRow wi1.heap.size 9 1 u nD ((X.doors.map (·.name)).flatMap strE)):=by have:=own.out;rw [List.take_of_length_le (by rw [LD.out];omega)] at this;exact this
     have hwi':=H_ (hwi.out.trans hbut.out);have hbx':=hbxi;have hbol':Hid (bo<wr.heap.size):=hbxi.out.lt;obtain⟨uD,huuD⟩: ∃ q,q=u:=⟨_,rfl⟩
     subst huuD;obtain⟨wi2,hwwi2⟩: ∃ q,q=wr:=⟨_,rfl⟩
     subst hwwi2;clear hup2 own hbxi hbut hwi hbx hbol hi hin hlowi;clear huS huP;have huS:=huS';have huP:=huP';have hwi:=hwi';have hbx:=hbx';have hbol:=hbol';clear hwi' hbx' hbol' huS' huP';go_wp2_with fail;go_loopw [6] (fun iv wr=> ∃ (i:Nat) (u:Value),i≤nR∧iv= .int .i64 i∧Hid (Bx wr bo 24 [uS,uP,uD,u,.slice none 0 0,.slice none 0 0])∧Hid (wr.ownsRow wi2.heap.size 9 1 u i (((X.routes.take i).map (·.name)).flatMap strE))∧Hid (But wi2 wr [bo])) (fun iv _=>nR-(intOf iv).toNat)
     case atStart=>exact⟨0,.slice none 0 0,Nat.zero_le _,rfl,hbx,World.ownsRow_nil _ _ _ _,But.refl _ _⟩
     case round=>
      obtain⟨i,u,hi,rfl,hbxi,own,hbut⟩:=hrel;have hlowi:=hlow.out _ (hwi.out.trans hbut.out);have y0:=(B1.out.below hlowi).cell 4 rfl;by_cases hin:i<nR
      ·have hinI:(i:Int)<(nR:Int):=by omega
       obtain⟨b,o,r,rfl,hbs,hx,f0,_⟩:=hrR.out.get hin;have hsn:(X.routes.take (i+1)).map (·.name)=(X.routes.take i).map (·.name)++[r.name]:=by rw [take_at hx,List.map_append,List.map_singleton]
       have hlen:((X.routes.take i).map (·.name)).length =i:=by rw [List.length_map,List.length_take,LR.out];omega
       clear hx;go_wp2_with fail;go_upto_region 13 with fail;refine wp_region_late [0,0,0,0,0,0,0,0,2,2,2,2] (by kernel_rfl) (by kernel_rfl) ?_;intro C hC;simp only [pickK,Nat.reduceEqDiff, ↓reduceIte]
       repeat(go_big_quiet_step (first
        |(intro _;with_reducible rfl)
        |(intro hc;have hR:=hwi.out.trans (hbut.out.trans (But.of_below hc _));have hbw:=hlow.out _ hR;have m0:=(hbxi.out.below hc).cell 3 rfl;have m1:=(B1.out.below hbw).cell 4 rfl;have m2:=c_ hbw hbs f0;simp only [m0,m1,m2,Result.andThen];exact⟨trivial,rfl⟩)))
       refine wpQuiet_nil ?_;clear hC;intro C' hC';refine wpQuiet_nil ?_;clear hC';intro wq hbq;obtain⟨W1,W2,W3,va,vb,h1,h2,h3,⟨_,b2,b3⟩,⟨_,_,t3⟩,_,hrun,own3,gv,cv,hvb⟩:=stepW (enc:=strE) Tryz.underlying22 info_tStr rfl (by decide) strE_len strE_one (by decide) (f:=3) (T:=24) r.name (hbxi.out.below hbq) (own_below own.out hbq) hlen (by omega) hbol.out (hbut.out.trans (But.of_below hbq _));rw [←hsn] at own3;have own3:=H_ own3;have hb3:Hid (Bx W3 bo 24 [uS,uP,uD,vb,.slice none 0 0,.slice none 0 0]):=b3;have ht3:=H_ t3;have v5:=b2.cell 3 rfl;have v6:=b2.frozen 3;subst h1 h2 hvb;have hrun:(Builtin.append_ #[22,22] 22 #[u,.slice (some ⟨wq.heap.size,0,none⟩) 1 1]).run Tryz.prog (wq.alloc (.cells #[.string r.name] 9))= .ok (.slice (some ⟨gv,0,none⟩) (i+1) cv) W2:=hrun;rename_i k1 k2 k3 k4;clear k1 k2 k3 k4 hsn hlen b2 b3 t3 own hbxi hbut hbq hlowi
       go_wp2_with (at_builtin;refine wpList_append_run ?nR1 (.tmp 58) (.tmp 65) 22 ?nR2 ?nR3 ?nR4 hrun ?_)
       case nR1=>rfl
       case nR2=>rfl
       try(case nR3=>rfl)
       try(case nR4=>rfl)
       go_roundw
       case rel=>exact⟨i+1,_,by omega,by go_num,hb3,own3,ht3⟩
       case measure=>simp [intOf];omega
      ·obtain rfl:nR=i:=by omega
       have hup2: ∀ {z m:Nat} {v:Value} {xs:List Value} {b:Nat},wi2.ownsRow b 9 z v m xs→wr.ownsRow b 9 z v m xs:=fun h=>own_box h hbx.out (by decide) hbut.out;have huS':=H_ (hup2 huS.out);have huP':=H_ (hup2 huP.out);have huD':=H_ (hup2 huD.out);have huR:Hid (wr.ownsRow wi2.heap.size 9 1 u nR ((X.routes.map (·.name)).flatMap strE)):=by have:=own.out;rw [List.take_of_length_le (by rw [LR.out];omega)] at this;exact this
       have hwi':=H_ (hwi.out.trans hbut.out);have hbx':=hbxi;have hbol':Hid (bo<wr.heap.size):=hbxi.out.lt;obtain⟨uR,huuR⟩: ∃ q,q=u:=⟨_,rfl⟩
       subst huuR;obtain⟨wi3,hwwi3⟩: ∃ q,q=wr:=⟨_,rfl⟩
       subst hwwi3;clear hup2 own hbxi hbut hwi hbx hbol hi hin hlowi;clear huS huP huD;have huS:=huS';have huP:=huP';have huD:=huD';have hwi:=hwi';have hbx:=hbx';have hbol:=hbol';clear hwi' hbx' hbol' huS' huP' huD';go_wp2_with fail;go_loopw [7] (fun iv wr=> ∃ (i:Nat) (u:Value),i≤nT∧iv= .int .i64 i∧Hid (Bx wr bo 24 [uS,uP,uD,uR,u,.slice none 0 0])∧Hid (wr.ownsRow wi3.heap.size 9 1 u i (((X.trips.take i).map (·.name)).flatMap strE))∧Hid (But wi3 wr [bo])) (fun iv _=>nT-(intOf iv).toNat)
       case atStart=>exact⟨0,.slice none 0 0,Nat.zero_le _,rfl,hbx,World.ownsRow_nil _ _ _ _,But.refl _ _⟩
       case round=>
        obtain⟨i,u,hi,rfl,hbxi,own,hbut⟩:=hrel;have hlowi:=hlow.out _ (hwi.out.trans hbut.out);have y0:=(B1.out.below hlowi).cell 5 rfl;by_cases hin:i<nT
        ·have hinI:(i:Int)<(nT:Int):=by omega
         obtain⟨b,o,⟨q0,q1,q2,q3,q4⟩,rfl,hbs,hx,hc0⟩:=hrT.out.get hin;have f0:=hc0 0 _ rfl;simp only [Nat.add_zero] at f0;clear hc0;have hsn:(X.trips.take (i+1)).map (·.name)=(X.trips.take i).map (·.name)++[q0]:=by rw [take_at hx,List.map_append,List.map_singleton]
         have hlen:((X.trips.take i).map (·.name)).length =i:=by rw [List.length_map,List.length_take,LT.out];omega
         clear hx;go_wp2_with fail;go_upto_region 17 with fail;refine wp_region_late [0,0,0,0,0,0,0,0,2,2,2,2] (by kernel_rfl) (by kernel_rfl) ?_;intro C hC;simp only [pickK,Nat.reduceEqDiff, ↓reduceIte]
         repeat(go_big_quiet_step (first
          |(intro _;with_reducible rfl)
          |(intro hc;have hR:=hwi.out.trans (hbut.out.trans (But.of_below hc _));have hbw:=hlow.out _ hR;have m0:=(hbxi.out.below hc).cell 4 rfl;have m1:=(B1.out.below hbw).cell 5 rfl;have m2:=c_ hbw hbs f0;simp only [m0,m1,m2,Result.andThen];exact⟨trivial,rfl⟩)))
         refine wpQuiet_nil ?_;clear hC;intro C' hC';refine wpQuiet_nil ?_;clear hC';intro wq hbq;obtain⟨W1,W2,W3,va,vb,h1,h2,h3,⟨_,b2,b3⟩,⟨_,_,t3⟩,_,hrun,own3,gv,cv,hvb⟩:=stepW (enc:=strE) Tryz.underlying22 info_tStr rfl (by decide) strE_len strE_one (by decide) (f:=4) (T:=24) q0 (hbxi.out.below hbq) (own_below own.out hbq) hlen (by omega) hbol.out (hbut.out.trans (But.of_below hbq _));rw [←hsn] at own3;have own3:=H_ own3;have hb3:Hid (Bx W3 bo 24 [uS,uP,uD,uR,vb,.slice none 0 0]):=b3;have ht3:=H_ t3;have v5:=b2.cell 4 rfl;have v6:=b2.frozen 4;subst h1 h2 hvb;have hrun:(Builtin.append_ #[22,22] 22 #[u,.slice (some ⟨wq.heap.size,0,none⟩) 1 1]).run Tryz.prog (wq.alloc (.cells #[.string q0] 9))= .ok (.slice (some ⟨gv,0,none⟩) (i+1) cv) W2:=hrun;rename_i k1 k2 k3 k4;clear k1 k2 k3 k4 hsn hlen b2 b3 t3 own hbxi hbut hbq hlowi
         go_wp2_with (at_builtin;refine wpList_append_run ?nT1 (.tmp 76) (.tmp 83) 22 ?nT2 ?nT3 ?nT4 hrun ?_)
         case nT1=>rfl
         case nT2=>rfl
         try(case nT3=>rfl)
         try(case nT4=>rfl)
         go_roundw
         case rel=>exact⟨i+1,_,by omega,by go_num,hb3,own3,ht3⟩
         case measure=>simp [intOf];omega
        ·obtain rfl:nT=i:=by omega
         have hup2: ∀ {z m:Nat} {v:Value} {xs:List Value} {b:Nat},wi3.ownsRow b 9 z v m xs→wr.ownsRow b 9 z v m xs:=fun h=>own_box h hbx.out (by decide) hbut.out;have huS':=H_ (hup2 huS.out);have huP':=H_ (hup2 huP.out);have huD':=H_ (hup2 huD.out);have huR':=H_ (hup2 huR.out);have huT:Hid (wr.ownsRow wi3.heap.size 9 1 u nT ((X.trips.map (·.name)).flatMap strE)):=by have:=own.out;rw [List.take_of_length_le (by rw [LT.out];omega)] at this;exact this
         have hwi':=H_ (hwi.out.trans hbut.out);have hbx':=hbxi;have hbol':Hid (bo<wr.heap.size):=hbxi.out.lt;obtain⟨uT,huuT⟩: ∃ q,q=u:=⟨_,rfl⟩
         subst huuT;obtain⟨wi4,hwwi4⟩: ∃ q,q=wr:=⟨_,rfl⟩
         subst hwwi4;clear hup2 own hbxi hbut hwi hbx hbol hi hin hlowi;clear huS huP huD huR;have huS:=huS';have huP:=huP';have huD:=huD';have huR:=huR';have hwi:=hwi';have hbx:=hbx';have hbol:=hbol';clear hwi' hbx' hbol' huS' huP' huD' huR';go_wp2_with fail;go_loopw [8] (fun iv wr=> ∃ (i:Nat) (u:Value),i≤nH∧iv= .int .i64 i∧Hid (Bx wr bo 24 [uS,uP,uD,uR,uT,u])∧Hid (wr.ownsRow wi4.heap.size 9 1 u i (((X.hazs.take i).map (·.name)).flatMap strE))∧Hid (But wi4 wr [bo])) (fun iv _=>nH-(intOf iv).toNat)
         case atStart=>exact⟨0,.slice none 0 0,Nat.zero_le _,rfl,hbx,World.ownsRow_nil _ _ _ _,But.refl _ _⟩
         case round=>
          obtain⟨i,u,hi,rfl,hbxi,own,hbut⟩:=hrel;have hlowi:=hlow.out _ (hwi.out.trans hbut.out);have y0:=(B1.out.below hlowi).cell 6 rfl;by_cases hin:i<nH
          ·have hinI:(i:Int)<(nH:Int):=by omega
           obtain⟨b,o,⟨q0,q1,q2,q3,q4⟩,rfl,hbs,hx,hc0⟩:=hrH.out.get hin;have f0:=hc0 0 _ rfl;simp only [Nat.add_zero] at f0;clear hc0;have hsn:(X.hazs.take (i+1)).map (·.name)=(X.hazs.take i).map (·.name)++[q0]:=by rw [take_at hx,List.map_append,List.map_singleton]
           have hlen:((X.hazs.take i).map (·.name)).length =i:=by rw [List.length_map,List.length_take,LH.out];omega
           clear hx;go_wp2_with fail;go_upto_region 21 with fail;refine wp_region_late [0,0,0,0,0,0,0,0,2,2,2,2] (by kernel_rfl) (by kernel_rfl) ?_;intro C hC;simp only [pickK,Nat.reduceEqDiff, ↓reduceIte]
           repeat(go_big_quiet_step (first
            |(intro _;with_reducible rfl)
            |(intro hc;have hR:=hwi.out.trans (hbut.out.trans (But.of_below hc _));have hbw:=hlow.out _ hR;have m0:=(hbxi.out.below hc).cell 5 rfl;have m1:=(B1.out.below hbw).cell 6 rfl;have m2:=c_ hbw hbs f0;simp only [m0,m1,m2,Result.andThen];exact⟨trivial,rfl⟩)))
           refine wpQuiet_nil ?_;clear hC;intro C' hC';refine wpQuiet_nil ?_;clear hC';intro wq hbq;obtain⟨W1,W2,W3,va,vb,h1,h2,h3,⟨_,b2,b3⟩,⟨_,_,t3⟩,_,hrun,own3,gv,cv,hvb⟩:=stepW (enc:=strE) Tryz.underlying22 info_tStr rfl (by decide) strE_len strE_one (by decide) (f:=5) (T:=24) q0 (hbxi.out.below hbq) (own_below own.out hbq) hlen (by omega) hbol.out (hbut.out.trans (But.of_below hbq _));rw [←hsn] at own3;have own3:=H_ own3;have hb3:Hid (Bx W3 bo 24 [uS,uP,uD,uR,uT,vb]):=b3;have ht3:=H_ t3;have v5:=b2.cell 5 rfl;have v6:=b2.frozen 5;subst h1 h2 hvb;have hrun:(Builtin.append_ #[22,22] 22 #[u,.slice (some ⟨wq.heap.size,0,none⟩) 1 1]).run Tryz.prog (wq.alloc (.cells #[.string q0] 9))= .ok (.slice (some ⟨gv,0,none⟩) (i+1) cv) W2:=hrun;rename_i k1 k2 k3 k4;clear k1 k2 k3 k4 hsn hlen b2 b3 t3 own hbxi hbut hbq hlowi
           go_wp2_with (at_builtin;refine wpList_append_run ?nH1 (.tmp 94) (.tmp 101) 22 ?nH2 ?nH3 ?nH4 hrun ?_)
           case nH1=>rfl
           case nH2=>rfl
           try(case nH3=>rfl)
           try(case nH4=>rfl)
           go_roundw
           case rel=>exact⟨i+1,_,by omega,by go_num,hb3,own3,ht3⟩
           case measure=>simp [intOf];omega
          ·obtain rfl:nH=i:=by omega
           have hup2: ∀ {z m:Nat} {v:Value} {xs:List Value} {b:Nat},wi4.ownsRow b 9 z v m xs→wr.ownsRow b 9 z v m xs:=fun h=>own_box h hbx.out (by decide) hbut.out;have huS':=H_ (hup2 huS.out);have huP':=H_ (hup2 huP.out);have huD':=H_ (hup2 huD.out);have huR':=H_ (hup2 huR.out);have huT':=H_ (hup2 huT.out);have huH:Hid (wr.ownsRow wi4.heap.size 9 1 u nH ((X.hazs.map (·.name)).flatMap strE)):=by have:=own.out;rw [List.take_of_length_le (by rw [LH.out];omega)] at this;exact this
           have hwi':=H_ (hwi.out.trans hbut.out);have hbx':=hbxi;have hbol':Hid (bo<wr.heap.size):=hbxi.out.lt;obtain⟨uH,huuH⟩: ∃ q,q=u:=⟨_,rfl⟩
           subst huuH;obtain⟨wi5,hwwi5⟩: ∃ q,q=wr:=⟨_,rfl⟩
           subst hwwi5;clear hup2 own hbxi hbut hwi hbx hbol hi hin hlowi;clear huS huP huD huR huT;have huS:=huS';have huP:=huP';have huD:=huD';have huR:=huR';have huT:=huT';have hwi:=hwi';have hbx:=hbx';have hbol:=hbol';clear hwi' hbx' hbol' huS' huP' huD' huR' huT';have hl0:X.stops.length=n0:=L0.out;obtain⟨A0,x0,e0,_⟩:=Rd.of_own strE_len hl0 huS.out;have hl1:(X.paths.map (·.name)).length =nP:=by rw [List.length_map];exact LP.out
           obtain⟨A1,x1,e1,_⟩:=Rd.of_own strE_len hl1 huP.out;have hl2:(X.doors.map (·.name)).length =nD:=by rw [List.length_map];exact LD.out
           obtain⟨A2,x2,e2,_⟩:=Rd.of_own strE_len hl2 huD.out;have hl3:(X.routes.map (·.name)).length =nR:=by rw [List.length_map];exact LR.out
           obtain⟨A3,x3,e3,_⟩:=Rd.of_own strE_len hl3 huR.out;have hl4:(X.trips.map (·.name)).length =nT:=by rw [List.length_map];exact LT.out
           obtain⟨A4,x4,e4,_⟩:=Rd.of_own strE_len hl4 huT.out;have hl5:(X.hazs.map (·.name)).length =nH:=by rw [List.length_map];exact LH.out
           obtain⟨A5,x5,e5,_⟩:=Rd.of_own strE_len hl5 huH.out;subst e0 e1 e2 e3 e4 e5;have hBq:=hQQ.out _ hwi.out;obtain⟨hBF,hbF⟩:=hBq.row [.slice A0 n0 x0,.slice A1 nP x1,.slice A2 nD x2,.slice A3 nR x3,.slice A4 nT x4,.slice A5 nH x5];obtain⟨wF,hwF⟩: ∃ q,wi5.setRow bq (List.toArray [.slice A0 n0 x0,.slice A1 nP x1,.slice A2 nD x2,.slice A3 nR x3,.slice A4 nT x4,.slice A5 nH x5])=q:=⟨_,rfl⟩
           rw [hwF] at hBF hbF;have r0:=H_ (rd_own strE_len hl0 (own_box huS.out hBq (by decide) hbF));have r1:=H_ (rd_own strE_len hl1 (own_box huP.out hBq (by decide) hbF));have r2:=H_ (rd_own strE_len hl2 (own_box huD.out hBq (by decide) hbF));have r3:=H_ (rd_own strE_len hl3 (own_box huR.out hBq (by decide) hbF));have r4:=H_ (rd_own strE_len hl4 (own_box huT.out hBq (by decide) hbF));have r5:=H_ (rd_own strE_len hl5 (own_box huH.out hBq (by decide) hbF));have hbelF:Hid (Below we.heap.size we wF):=(hup.out _ (hlow.out _ hwi.out)).trans (hbF.below (hup.out _ (hlow.out _ hwi.out)).size (m_ hbeq.out));have hBq:=H_ hBq;have hBF:=H_ hBF;rename_i g1X g2X;clear g1X g2X hbF hl0 hl1 hl2 hl3 hl4 hl5 huS huP huD huR huT huH;go_upto_region 22 with fail;refine wp_region_lit ?_;refine wpList_load_bx (.tmp 3) 24 rfl rfl rfl hbx.out (by kernel_rfl) (by kernel_rfl) ?_
           refine wpList_store_bx (.tmp 2) (.tmp 104) 24 rfl rfl rfl rfl hBq.out (by kernel_rfl) rfl rfl hwF ?_;refine wpList_nil ?_;clear hwF hbx;rename_i hKx;refine hKx _ _ (wp_ret ?_);refine bodyPost_bx (s:=2) (t:=24) rfl rfl hBF.out (by kernel_rfl) (by kernel_rfl) rfl ?_;refine⟨A0,A1,A2,A3,A4,A5,x0,x1,x2,x3,x4,x5,?_,?_⟩
           ·rw [L0.out,LP.out,LD.out,LR.out,LT.out,LH.out]
           ·rw [L0.out,LP.out,LD.out,LR.out,LT.out,LH.out];exact⟨r0.out,r1.out,r2.out,r3.out,r4.out,r5.out,hbelF.out⟩
