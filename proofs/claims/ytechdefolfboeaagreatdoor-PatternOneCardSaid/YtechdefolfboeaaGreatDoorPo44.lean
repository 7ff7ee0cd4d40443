/- Merged. -/
import Derived.Test.YtechdefolfboeaaGreatDoorPo2
set_option linter.unusedVariables false
set_option linter.unusedSimpArgs false
set_option maxHeartbeats 2000000
namespace Go.Proofs.YtechdefolfboeaaGreatDoor
open Go.RowKit B
theorem in9_any (x:Int) (A:Option Addr) (n c:Nat) (w:World):Calls Tryz.prog 142 #[.int .i64 x,.slice A n c] w fun e w'=>e= .returned (.bool (inB x n))∧w=w':=by
 unfold inB;by_cases h1:0≤x
 ·have e1:decide (0≤x)=true:=T_ h1;rw [e1];go_enter Tryz.func142,Tryz.ntmps142
  go_wp2
  go_returns;exact⟨by simp,rfl⟩
 ·have e1:decide (0≤x)=false:=F_ h1;rw [e1];go_enter Tryz.func142,Tryz.ntmps142
  go_wp2
  go_returns;exact⟨by simp,rfl⟩
theorem all_exit {α:Type} {L:List α} {f:α→Bool} {c q:Bool} {i:Nat} (h:q=(c&&(L.take i).all f)) (he:q=false∨L.length≤i):q=(c&&L.all f):=by
 rcases he with rfl|he
 ·cases c with
  |false=>rfl
  |true=>
   rw [Bool.true_and] at h ⊢
   symm
   rw [Bool.eq_false_iff];intro ha;have:(L.take i).all f=true:=List.all_eq_true.2 fun x hx=>List.all_eq_true.1 ha x (List.mem_of_mem_take hx);rw [this] at h;cases h
 ·rw [h,List.take_of_length_le he]
theorem all_next {α:Type} {L:List α} {f:α→Bool} {c:Bool} {i:Nat} {x:α} (h:true=(c&&(L.take i).all f)) (hx:L[i]?=some x):f x=(c&&(L.take (i+1)).all f):=by
 have h2:=h.symm;rw [Bool.and_eq_true] at h2;rw [take_at hx,List.all_append,h2.1,h2.2];simp
set_option maxRecDepth 100000 in
theorem whole_any (W:WorldP) (V:WV) (w:World) (hr:RW w W V) (hf:Few W):
 Calls Tryz.prog 109 #[wVal W V] w fun e w'=>e= .returned (.bool (wholeB W))∧Below w.heap.size w w':=by
 obtain⟨a0,a1,a2,a3,a4,a5,aP,aD,aR,aT,aH,n0,n1,n2,n3,n4,n5,nP,nD,nR,nT,nH,c0,c1,c2,c3,c4,c5,cP,cD,cR,cT,cH⟩:=V
 obtain⟨l0,l1,l2,l3,l4,l5,lP,lD,lR,lT,lH⟩:W.stops.length=n0∧W.nPaths.length=n1∧W.nDoors.length=n2∧W.nRoutes.length=n3∧W.nTrips.length=n4∧W.nHazs.length=n5∧W.paths.length=nP∧W.doors.length=nD∧W.routes.length=nR∧W.trips.length=nT∧W.hazs.length=nH:=
  ⟨hr.r0.len,hr.r1.len,hr.r2.len,hr.r3.len,hr.r4.len,hr.r5.len,hr.rP.len,hr.rD.len,hr.rR.len,hr.rT.len,hr.rH.len⟩
 have mP:nP≤100000:=by have:=hf.sP;omega
 have mD:nD≤100000:=by have:=hf.sD;omega
 have mR:nR≤100000:=by have:=hf.sR;omega
 have mT:nT≤100000:=by have:=hf.sT;omega
 have mH:nH≤100000:=by have:=hf.sH;omega
 have hfr:=H_ hf.sr;have L0:=H_ l0;have L1:=H_ l1;have L3:=H_ l3;have LP:=H_ lP;have LD:=H_ lD;have LR:=H_ lR;have LT:=H_ lT;have LH:=H_ lH;have hlens:Hid (lensB W=(decide (n1=nP)&&(decide (n2=nD)&&(decide (n3=nR)&&(decide (n4=nT)&&decide (n5=nH)))))):=by show _=_;unfold lensB;rw [l1,l2,l3,l4,l5,lP,lD,lR,lT,lH]
 obtain⟨hz,hhz⟩: ∃ q,W.hz=q:=⟨_,rfl⟩
 simp only [wVal];rw [hhz];have hb1:Below w.heap.size w (w.alloc (.cells #[.int .i64 hz,.slice a0 n0 c0,.slice a1 n1 c1,.slice a2 n2 c2,.slice a3 n3 c3,.slice a4 n4 c4,.slice a5 n5 c5,.slice aP nP cP,.slice aD nD cD,.slice aR nR cR,.slice aT nT cT,.slice aH nH cH] 31)):=(Below.refl _ w).alloc (Nat.le_refl _) _;have B1:=Bx.new w 31 [.int .i64 hz,.slice a0 n0 c0,.slice a1 n1 c1,.slice a2 n2 c2,.slice a3 n3 c3,.slice a4 n4 c4,.slice a5 n5 c5,.slice aP nP cP,.slice aD nD cD,.slice aR nR cR,.slice aT nT cT,.slice aH nH cH];obtain⟨w1,hw1⟩: ∃ q,w.alloc (.cells #[.int .i64 hz,.slice a0 n0 c0,.slice a1 n1 c1,.slice a2 n2 c2,.slice a3 n3 c3,.slice a4 n4 c4,.slice a5 n5 c5,.slice aP nP cP,.slice aD nD cD,.slice aR nR cR,.slice aT nT cT,.slice aH nH cH] 31)=q:=⟨_,rfl⟩
 rw [hw1] at hb1;change Bx (w.alloc (.cells #[.int .i64 hz,.slice a0 n0 c0,.slice a1 n1 c1,.slice a2 n2 c2,.slice a3 n3 c3,.slice a4 n4 c4,.slice a5 n5 c5,.slice aP nP cP,.slice aD nD cD,.slice aR nR cR,.slice aT nT cT,.slice aH nH cH] 31)) _ _ _ at B1;rw [hw1] at B1;have hb2:Below w1.heap.size w1 (w1.alloc (.cells #[.slice a0 n0 c0,.slice a1 n1 c1,.slice a2 n2 c2,.slice a3 n3 c3,.slice a4 n4 c4,.slice a5 n5 c5] 24)):=(Below.refl _ w1).alloc (Nat.le_refl _) _;have B2:=Bx.new w1 24 [.slice a0 n0 c0,.slice a1 n1 c1,.slice a2 n2 c2,.slice a3 n3 c3,.slice a4 n4 c4,.slice a5 n5 c5];obtain⟨w2,hw2⟩: ∃ q,w1.alloc (.cells #[.slice a0 n0 c0,.slice a1 n1 c1,.slice a2 n2 c2,.slice a3 n3 c3,.slice a4 n4 c4,.slice a5 n5 c5] 24)=q:=⟨_,rfl⟩
 rw [hw2] at hb2;change Bx (w1.alloc (.cells #[.slice a0 n0 c0,.slice a1 n1 c1,.slice a2 n2 c2,.slice a3 n3 c3,.slice a4 n4 c4,.slice a5 n5 c5] 24)) _ _ _ at B2;rw [hw2] at B2;have B1':=B1.below hb2;obtain⟨bn,hbn⟩: ∃ q,w.heap.size=q:=⟨_,rfl⟩
 obtain⟨bb,hbb⟩: ∃ q,w1.heap.size=q:=⟨_,rfl⟩
 rw [hbn] at B1' B1;rw [hbb] at B2;have hX:Hid (∀ U,Below w2.heap.size w2 U→Bx U bn 31 [.int .i64 hz,.slice a0 n0 c0,.slice a1 n1 c1,.slice a2 n2 c2,.slice a3 n3 c3,.slice a4 n4 c4,.slice a5 n5 c5,.slice aP nP cP,.slice aD nD cD,.slice aR nR cR,.slice aT nT cT,.slice aH nH cH]∧Bx U bb 24 [.slice a0 n0 c0,.slice a1 n1 c1,.slice a2 n2 c2,.slice a3 n3 c3,.slice a4 n4 c4,.slice a5 n5 c5]):=fun U hU=>⟨B1'.below hU,B2.below hU⟩
 have hup:Hid (∀ U,Below w2.heap.size w2 U→Below w.heap.size w U):=fun U hU=>u_ hb1 (hb2.trans (hU.mono hb2.size));have hR:=H_ ((hr.below hb1).below hb2);obtain⟨y1,q1,q2,q3,q4,q5,q6⟩:=c_7 B1;clear l0 l1 l2 l3 l4 l5 lP lD lR lT lH hr hf hhz hb1 hb2 B1 B2 B1';go_enter Tryz.func109,Tryz.ntmps109;go_upto_region 2 with fail;clear hw1 hw2 hbn hbb y1 q1 q2 q3 q4 q5 q6;obtain⟨hX1,hX2⟩:=hX.out _ (Below.refl _ _);obtain⟨x0,x1,x2,x3,x4,x5⟩:=c_6 hX2;have y2:=hX1.cell 7 rfl;have y3:=hX1.cell 8 rfl;have y4:=hX1.cell 9 rfl;have y5:=hX1.cell 10 rfl;have y6:=hX1.cell 11 rfl;go_cut [4] (fun v wx=>v= .bool (lensB W)∧w2=wx)
 case first=>
  by_cases d0:n1=nP
  ·have e0:((n1:Int)==(nP:Int))=true:=by simp [d0]
   by_cases d1:n2=nD
   ·have e1:((n2:Int)==(nD:Int))=true:=by simp [d1]
    by_cases d2:n3=nR
    ·have e2:((n3:Int)==(nR:Int))=true:=by simp [d2]
     by_cases d3:n4=nT
     ·have e3:((n4:Int)==(nT:Int))=true:=by simp [d3]
      by_cases d4:n5=nH
      ·have e4:((n5:Int)==(nH:Int))=true:=by simp [d4]
       go_wp2_with fail
       go_meet
       case rel=>exact⟨by rw [hlens.out];simp [d0,d1,d2,d3,d4],rfl⟩
      ·have e4:((n5:Int)==(nH:Int))=false:=by simp;omega
       go_wp2_with fail
       go_meet
       case rel=>exact⟨by rw [hlens.out];simp [d0,d1,d2,d3,d4],rfl⟩
     ·have e3:((n4:Int)==(nT:Int))=false:=by simp;omega
      go_wp2_with fail
      go_meet
      case rel=>exact⟨by rw [hlens.out];simp [d0,d1,d2,d3],rfl⟩
    ·have e2:((n3:Int)==(nR:Int))=false:=by simp;omega
     go_wp2_with fail
     go_meet
     case rel=>exact⟨by rw [hlens.out];simp [d0,d1,d2],rfl⟩
   ·have e1:((n2:Int)==(nD:Int))=false:=by simp;omega
    go_wp2_with fail
    go_meet
    case rel=>exact⟨by rw [hlens.out];simp [d0,d1],rfl⟩
  ·have e0:((n1:Int)==(nP:Int))=false:=by simp;omega
   go_wp2_with fail
   go_meet
   case rel=>exact⟨by rw [hlens.out];simp [d0],rfl⟩
 case rest=>
  obtain⟨rfl,rfl⟩:=hcut;clear hX1 hX2 x0 x1 x2 x3 x4 x5 y2 y3 y4 y5 y6;have hrP:Hid (Rd w2 3 tripE aP nP W.paths):=hR.out.rP;have hrD:Hid (Rd w2 6 doorE aD nD W.doors):=hR.out.rD;have hrR:Hid (RRoutes w2 aR nR W.routes):=hR.out.rR;have hrT:Hid (Rd w2 4 tripP aT nT W.trips):=hR.out.rT;have hrH:Hid (Rd w2 5 hazE aH nH W.hazs):=hR.out.rH;obtain⟨q,hq⟩: ∃ q,lensB W=q:=⟨_,rfl⟩
  rw [hq];have hqP:Hid (q=lensB W):=hq.symm;have hbP:=H_ (Below.refl w2.heap.size w2);clear hq hR;go_wp2_with fail;go_loopw [5,4] (fun iv qv wr=> ∃ (i:Nat) (q:Bool),i≤nP∧iv= .int .i64 i∧qv= .bool q∧Hid (q=(lensB W&&(W.paths.take i).all (okP W)))∧Hid (Below w2.heap.size w2 wr)) (fun iv _ _=>nP-(intOf iv).toNat)
  case atStart=>exact⟨0,q,Nat.zero_le _,rfl,rfl,by show _=_;rw [List.take_zero,List.all_nil,Bool.and_true];exact hqP.out,hbP⟩
  case round=>
   obtain⟨i,q,hi,rfl,rfl,hq,hb⟩:=hrel;obtain⟨hX1,hX2⟩:=hX.out _ hb.out;have x0:=hX2.cell 0 rfl;have x1:=hX2.cell 1 rfl;have x3:=hX2.cell 3 rfl;have y2:=hX1.cell 7 rfl;have y3:=hX1.cell 8 rfl;have y4:=hX1.cell 9 rfl;have y5:=hX1.cell 10 rfl;have y6:=hX1.cell 11 rfl;have zbn:=hX1.lt;have zbb:=hX2.lt;clear hX1 hX2;by_cases hgo:i<nP∧q=true
   ·obtain⟨hin,rfl⟩:=hgo;have hinI:(i:Int)<(nP:Int):=by omega
    obtain⟨b,o,x1,x2,x3,rfl,hbs,hx,f0,f1,_⟩:=(hrP.out.below hb.out).trip hin;have hnx:=all_next hq.out hx;have hv1:Hid (∀ U,Calls Tryz.prog 142 #[.int .i64 x1,.slice a0 n0 c0] U fun e w'=>e= .returned (.bool (inB x1 n0))∧U=w'):=fun U=>in9_any x1 a0 n0 c0 U;have hv2:Hid (∀ U,Calls Tryz.prog 142 #[.int .i64 x2,.slice a0 n0 c0] U fun e w'=>e= .returned (.bool (inB x2 n0))∧U=w'):=fun U=>in9_any x2 a0 n0 c0 U;have hok:okP W (x1,x2,x3)=(inB x1 n0&&inB x2 n0):=by rw [←L0.out];rfl
    rw [hok] at hnx;clear hok;obtain⟨v1,e1⟩: ∃ v,inB x1 n0=v:=⟨_,rfl⟩
    obtain⟨v2,e2⟩: ∃ v,inB x2 n0=v:=⟨_,rfl⟩
    rw [e1] at hv1;rw [e2] at hv2;rw [e1,e2] at hnx;have hnx:=H_ hnx;rename_i hnxX;clear hnxX e1 e2 hx
    try clear hbR hqR
    try clear hbD hqD
    try clear hbP hqP
    cases v1 with
    |false=>
     go_wp2_with fail;go_upto_region 6 with fail;refine wb_ wr.heap.size ?_;intro C hC
     repeat(go_big_quiet_step (first
      |((intro _;with_reducible rfl))
      |(intro hc;have m0:=c_ hc zbn y2;have m1:=c_ hc zbb x0;have m2:=c_ hc hbs f0;have m3:=c_ hc hbs f1;simp only [m0,m1,m2,m3,Result.andThen];exact⟨trivial,rfl⟩)
      |(intro hc;with_reducible refine(hv1.out _).mono ?_;rintro e w'' ⟨rfl,rfl⟩;exact⟨rfl,hc⟩)))
     refine wpQuiet_nil ?_;intro w9 hb9;clear hC;have hfin:=h_ hb hb9;clear hb9;go_wp2_with fail;go_roundw
     case rel=>exact⟨i+1,_,by omega,by go_num,rfl,hnx,hfin⟩
     case measure=>simp [intOf];omega
    |true=>
     rw [Bool.true_and] at hnx;go_wp2_with fail;go_upto_region 6 with fail;refine wb_ wr.heap.size ?_;intro C hC
     repeat(go_big_quiet_step (first
      |((intro _;with_reducible rfl))
      |(intro hc;have m0:=c_ hc zbn y2;have m1:=c_ hc zbb x0;have m2:=c_ hc hbs f0;have m3:=c_ hc hbs f1;simp only [m0,m1,m2,m3,Result.andThen];exact⟨trivial,rfl⟩)
      |(intro hc;with_reducible refine(hv1.out _).mono ?_;rintro e w'' ⟨rfl,rfl⟩;exact⟨rfl,hc⟩)
      |(intro hc;with_reducible refine(hv2.out _).mono ?_;rintro e w'' ⟨rfl,rfl⟩;exact⟨rfl,hc⟩)))
     refine wpQuiet_nil ?_;intro w9 hb9;clear hC;have hfin:=h_ hb hb9;clear hb9;go_wp2_with fail;go_roundw
     case rel=>exact⟨i+1,_,by omega,by go_num,rfl,hnx,hfin⟩
     case measure=>simp [intOf];omega
   ·have hnot:q=false∨W.paths.length≤i:=by
     rw [LP.out]
     cases q with
     |false=>exact .inl rfl
     |true=>right;have: ¬ i<nP:=fun h=>hgo ⟨h,rfl⟩;omega
    have hex:=H_ (all_exit hq.out hnot);go_upto_region 4 with fail;go_cut [64] (fun v wx=>v= .bool false∧wr=wx)
    case first=>
     by_cases h1:i<nP
     ·obtain rfl:q=false:=by cases q with
       |false=>rfl
       |true=>exact absurd ⟨h1,rfl⟩ hgo
      have h1I:(i:Int)<(nP:Int):=by omega
      go_wp2_with fail
      go_meet
      case rel=>exact⟨rfl,by first|rfl|trivial⟩
     ·have h1I:decide ((i:Int)<(nP:Int))=false:=F_ (by omega);have h1N:decide (i<nP)=false:=F_ h1;go_wp2_with fail
      go_meet
      case rel=>exact⟨rfl,by first|rfl|trivial⟩
    case rest=>
     obtain⟨rfl,rfl⟩:=hcut;have hqD:=hex;have hbD:=hb;clear hex hnot hgo hq;go_wp2_with fail;go_loopw [6,4] (fun iv qv wr=> ∃ (i:Nat) (q:Bool),i≤nD∧iv= .int .i64 i∧qv= .bool q∧Hid (q=((lensB W&&W.paths.all (okP W))&&(W.doors.take i).all (okD W)))∧Hid (Below w2.heap.size w2 wr)) (fun iv _ _=>nD-(intOf iv).toNat)
     case atStart=>exact⟨0,q,Nat.zero_le _,rfl,rfl,by show _=_;rw [List.take_zero,List.all_nil,Bool.and_true];exact hqD.out,hbD⟩
     case round=>
      obtain⟨i,q,hi,rfl,rfl,hq,hb⟩:=hrel;obtain⟨hX1,hX2⟩:=hX.out _ hb.out;have x0:=hX2.cell 0 rfl;have x1:=hX2.cell 1 rfl;have x3:=hX2.cell 3 rfl;have y2:=hX1.cell 7 rfl;have y3:=hX1.cell 8 rfl;have y4:=hX1.cell 9 rfl;have y5:=hX1.cell 10 rfl;have y6:=hX1.cell 11 rfl;have zbn:=hX1.lt;have zbb:=hX2.lt;clear hX1 hX2;by_cases hgo:i<nD∧q=true
      ·obtain⟨hin,rfl⟩:=hgo;have hinI:(i:Int)<(nD:Int):=by omega
       obtain⟨b,o,⟨x1,x2,dl,df,de,du⟩,rfl,hbs,hx,hc⟩:=(hrD.out.below hb.out).get hin;have f0:=hc 0 _ rfl;have f1:=hc 1 _ rfl;simp only [Nat.add_zero] at f0 f1;clear hc;have hnx:=all_next hq.out hx;have hv1:Hid (∀ U,Calls Tryz.prog 142 #[.int .i64 x1,.slice a0 n0 c0] U fun e w'=>e= .returned (.bool (inB x1 n0))∧U=w'):=fun U=>in9_any x1 a0 n0 c0 U;have hv2:Hid (∀ U,Calls Tryz.prog 142 #[.int .i64 x2,.slice a0 n0 c0] U fun e w'=>e= .returned (.bool (inB x2 n0))∧U=w'):=fun U=>in9_any x2 a0 n0 c0 U;have hok:okD W ⟨x1,x2,dl,df,de,du⟩=(inB x1 n0&&inB x2 n0):=by rw [←L0.out];rfl
       rw [hok] at hnx;clear hok;obtain⟨v1,e1⟩: ∃ v,inB x1 n0=v:=⟨_,rfl⟩
       obtain⟨v2,e2⟩: ∃ v,inB x2 n0=v:=⟨_,rfl⟩
       rw [e1] at hv1;rw [e2] at hv2;rw [e1,e2] at hnx;have hnx:=H_ hnx;rename_i hnxX;clear hnxX e1 e2 hx
       try clear hbR hqR
       try clear hbD hqD
       try clear hbP hqP
       cases v1 with
       |false=>
        go_wp2_with fail;go_upto_region 10 with fail;refine wb_ wr.heap.size ?_;intro C hC
        repeat(go_big_quiet_step (first
         |((intro _;with_reducible rfl))
         |(intro hc;have m0:=c_ hc zbn y3;have m1:=c_ hc zbb x0;have m2:=c_ hc hbs f0;have m3:=c_ hc hbs f1;simp only [m0,m1,m2,m3,Result.andThen];exact⟨trivial,rfl⟩)
         |(intro hc;with_reducible refine(hv1.out _).mono ?_;rintro e w'' ⟨rfl,rfl⟩;exact⟨rfl,hc⟩)))
        refine wpQuiet_nil ?_;intro w9 hb9;clear hC;have hfin:=h_ hb hb9;clear hb9;go_wp2_with fail;go_roundw
        case rel=>exact⟨i+1,_,by omega,by go_num,rfl,hnx,hfin⟩
        case measure=>simp [intOf];omega
       |true=>
        rw [Bool.true_and] at hnx;go_wp2_with fail;go_upto_region 10 with fail;refine wb_ wr.heap.size ?_;intro C hC
        repeat(go_big_quiet_step (first
         |((intro _;with_reducible rfl))
         |(intro hc;have m0:=c_ hc zbn y3;have m1:=c_ hc zbb x0;have m2:=c_ hc hbs f0;have m3:=c_ hc hbs f1;simp only [m0,m1,m2,m3,Result.andThen];exact⟨trivial,rfl⟩)
         |(intro hc;with_reducible refine(hv1.out _).mono ?_;rintro e w'' ⟨rfl,rfl⟩;exact⟨rfl,hc⟩)
         |(intro hc;with_reducible refine(hv2.out _).mono ?_;rintro e w'' ⟨rfl,rfl⟩;exact⟨rfl,hc⟩)))
        refine wpQuiet_nil ?_;intro w9 hb9;clear hC;have hfin:=h_ hb hb9;clear hb9;go_wp2_with fail;go_roundw
        case rel=>exact⟨i+1,_,by omega,by go_num,rfl,hnx,hfin⟩
        case measure=>simp [intOf];omega
      ·have hnot:q=false∨W.doors.length≤i:=by
        rw [LD.out]
        cases q with
        |false=>exact .inl rfl
        |true=>right;have: ¬ i<nD:=fun h=>hgo ⟨h,rfl⟩;omega
       have hex:=H_ (all_exit hq.out hnot);go_upto_region 8 with fail;go_cut [94] (fun v wx=>v= .bool false∧wr=wx)
       case first=>
        by_cases h1:i<nD
        ·obtain rfl:q=false:=by cases q with
          |false=>rfl
          |true=>exact absurd ⟨h1,rfl⟩ hgo
         have h1I:(i:Int)<(nD:Int):=by omega
         go_wp2_with fail
         go_meet
         case rel=>exact⟨rfl,by first|rfl|trivial⟩
        ·have h1I:decide ((i:Int)<(nD:Int))=false:=F_ (by omega);have h1N:decide (i<nD)=false:=F_ h1;go_wp2_with fail
         go_meet
         case rel=>exact⟨rfl,by first|rfl|trivial⟩
       case rest=>
        obtain⟨rfl,rfl⟩:=hcut;have hqR:=hex;have hbR:=hb;clear hex hnot hgo hq;go_wp2_with fail;go_loopw [7,4] (fun iv qv wr=> ∃ (i:Nat) (q:Bool),i≤nR∧iv= .int .i64 i∧qv= .bool q∧Hid (q=(((lensB W&&W.paths.all (okP W))&&W.doors.all (okD W))&&(W.routes.take i).all (okR W)))∧Hid (Below w2.heap.size w2 wr)) (fun iv _ _=>nR-(intOf iv).toNat)
        case atStart=>exact⟨0,q,Nat.zero_le _,rfl,rfl,by show _=_;rw [List.take_zero,List.all_nil,Bool.and_true];exact hqR.out,hbR⟩
        case round=>
         obtain⟨i,q,hi,rfl,rfl,hq,hb⟩:=hrel;obtain⟨hX1,hX2⟩:=hX.out _ hb.out;have x0:=hX2.cell 0 rfl;have x1:=hX2.cell 1 rfl;have x3:=hX2.cell 3 rfl;have y2:=hX1.cell 7 rfl;have y3:=hX1.cell 8 rfl;have y4:=hX1.cell 9 rfl;have y5:=hX1.cell 10 rfl;have y6:=hX1.cell 11 rfl;have zbn:=hX1.lt;have zbb:=hX2.lt;clear hX1 hX2;by_cases hgo:i<nR∧q=true
         ·obtain⟨hin,rfl⟩:=hgo;have hinI:(i:Int)<(nR:Int):=by omega
          obtain⟨b,o,r,rfl,hbs,hx,⟨s1,m1,d1,f0,rs,_,_⟩,_,_⟩:=(hrR.out.below hb.out).get hin;have hnx:=all_next hq.out hx;have hok:okR W r=r.stops.all fun s=>inB s n0:=by rw [←L0.out];rfl
          rw [hok] at hnx;have hml:=rs.len;have hm1:m1≤100000:=by have:=(hfr.out r (List.mem_of_getElem? hx)).1;omega
          have rsH:=H_ rs;have hmlH:=H_ hml;have hnxH:=H_ hnx;obtain⟨wq,hwq⟩: ∃ q,q=wr:=⟨_,rfl⟩
          subst hwq;have hbq:=hb;clear hnx hx hok rs hml x0 x1 x3 y2 y3 y5 y6 hq hb;go_wp2_with fail;clear y4;go_loopw [8,4] (fun kv qv wr=> ∃ (k:Nat) (q:Bool),k≤m1∧kv= .int .i64 k∧qv= .bool q∧Hid (q=(true&&(r.stops.take k).all fun s=>inB s n0))∧Hid (Below wq.heap.size wq wr)) (fun kv _ _=>m1-(intOf kv).toNat)
          case atStart=>exact⟨0,true,Nat.zero_le _,rfl,rfl,by show _=_;rw [List.take_zero];rfl,Below.refl _ _⟩
          case round=>
           obtain⟨k,q,hk,rfl,rfl,hq,hb⟩:=hrel;obtain⟨hX1,hX2⟩:=hX.out _ (b_ hbq hb.out);have x0:=hX2.cell 0 rfl;have y4:=hX1.cell 9 rfl;have zbn:=hX1.lt;have zbb:=hX2.lt;have g0:=c_ hb.out hbs f0;have zb:=Nat.lt_of_lt_of_le hbs hb.out.size;clear hX1 hX2;by_cases hgo:k<m1∧q=true
           ·obtain⟨hkn,rfl⟩:=hgo;have hknI:(k:Int)<(m1:Int):=by omega
            obtain⟨b2,o2,x1,rfl,hbs2,hx,f1⟩:=(rsH.out.below hb.out).num hkn;have hnx:=all_next hq.out hx;obtain⟨v1,e1⟩: ∃ v,inB x1 n0=v:=⟨_,rfl⟩
            have hv1:Hid (∀ U,Calls Tryz.prog 142 #[.int .i64 x1,.slice a0 n0 c0] U fun e w'=>e= .returned (.bool (inB x1 n0))∧U=w'):=fun U=>in9_any _ _ _ _ U;rw [e1] at hv1 hnx;have hnx:=H_ hnx;rename_i hnxX;clear hnxX e1 hx;go_wp2_with fail;go_upto_region 17 with fail;refine wb_ wr.heap.size ?_;intro C hC
            repeat(go_big_quiet_step (first
             |((intro _;with_reducible rfl))
             |(intro hc;have m0:=c_ hc zbn y4;have m1:=c_ hc zbb x0;have m2:=c_ hc zb g0;have m3:=c_ hc hbs2 f1;simp only [m0,m1,m2,m3,Result.andThen];exact⟨trivial,rfl⟩)
             |(intro hc;with_reducible refine(hv1.out _).mono ?_;rintro e w'' ⟨rfl,rfl⟩;exact⟨rfl,hc⟩)))
            refine wpQuiet_nil ?_;intro w9 hb9;clear hC;have hfin:=h_ hb hb9;clear hb9;go_wp2_with fail;go_roundw
            case rel=>exact⟨k+1,_,by omega,by go_num,rfl,hnx,hfin⟩
            case measure=>simp [intOf];omega
           ·have hnot:q=false∨r.stops.length≤k:=by
             rw [hmlH.out]
             cases q with
             |false=>exact .inl rfl
             |true=>right;have: ¬ k<m1:=fun h=>hgo ⟨h,rfl⟩;omega
            have hex:=all_exit hq.out hnot;rw [Bool.true_and] at hex;have hnx2:Hid (q=(((lensB W&&W.paths.all (okP W))&&W.doors.all (okD W))&&(W.routes.take (i+1)).all (okR W))):=by show _=_;rw [hex];exact hnxH.out
            have hfin:=h_ hbq hb.out;clear hex hnot hq;go_upto_region 15 with fail;go_cut [138] (fun v wx=>v= .bool false∧wr=wx)
            case first=>
             by_cases h1:k<m1
             ·obtain rfl:q=false:=by cases q with
               |false=>rfl
               |true=>exact absurd ⟨h1,rfl⟩ hgo
              have h1I:(k:Int)<(m1:Int):=by omega
              go_wp2_with fail
              go_meet
              case rel=>exact⟨rfl,by first|rfl|trivial⟩
             ·have h1I:decide ((k:Int)<(m1:Int))=false:=F_ (by omega);have h1N:decide (k<m1)=false:=F_ h1;go_wp2_with fail
              go_meet
              case rel=>exact⟨rfl,by first|rfl|trivial⟩
            case rest=>
             obtain⟨rfl,rfl⟩:=hcut;go_wp2_with fail;go_roundw
             case rel=>exact⟨i+1,_,by omega,by go_num,rfl,hnx2,hfin⟩
             case measure=>simp [intOf];omega
         ·have hnot:q=false∨W.routes.length≤i:=by
           rw [LR.out]
           cases q with
           |false=>exact .inl rfl
           |true=>right;have: ¬ i<nR:=fun h=>hgo ⟨h,rfl⟩;omega
          have hex:=H_ (all_exit hq.out hnot);go_upto_region 12 with fail;go_cut [124] (fun v wx=>v= .bool false∧wr=wx)
          case first=>
           by_cases h1:i<nR
           ·obtain rfl:q=false:=by cases q with
             |false=>rfl
             |true=>exact absurd ⟨h1,rfl⟩ hgo
            have h1I:(i:Int)<(nR:Int):=by omega
            go_wp2_with fail
            go_meet
            case rel=>exact⟨rfl,by first|rfl|trivial⟩
           ·have h1I:decide ((i:Int)<(nR:Int))=false:=F_ (by omega);have h1N:decide (i<nR)=false:=F_ h1;go_wp2_with fail
            go_meet
            case rel=>exact⟨rfl,by first|rfl|trivial⟩
          case rest=>
           obtain⟨rfl,rfl⟩:=hcut;have hqT:=hex;have hbT:=hb;clear hex hnot hgo hq;go_wp2_with fail;go_loopw [9,4] (fun iv qv wr=> ∃ (i:Nat) (q:Bool),i≤nT∧iv= .int .i64 i∧qv= .bool q∧Hid (q=((((lensB W&&W.paths.all (okP W))&&W.doors.all (okD W))&&W.routes.all (okR W))&&(W.trips.take i).all (okT W)))∧Hid (Below w2.heap.size w2 wr)) (fun iv _ _=>nT-(intOf iv).toNat)
           case atStart=>exact⟨0,q,Nat.zero_le _,rfl,rfl,by show _=_;rw [List.take_zero,List.all_nil,Bool.and_true];exact hqT.out,hbT⟩
           case round=>
            obtain⟨i,q,hi,rfl,rfl,hq,hb⟩:=hrel;obtain⟨hX1,hX2⟩:=hX.out _ hb.out;have x0:=hX2.cell 0 rfl;have x1:=hX2.cell 1 rfl;have x3:=hX2.cell 3 rfl;have y2:=hX1.cell 7 rfl;have y3:=hX1.cell 8 rfl;have y4:=hX1.cell 9 rfl;have y5:=hX1.cell 10 rfl;have y6:=hX1.cell 11 rfl;have zbn:=hX1.lt;have zbb:=hX2.lt;clear hX1 hX2;by_cases hgo:i<nT∧q=true
            ·obtain⟨hin,rfl⟩:=hgo;have hinI:(i:Int)<(nT:Int):=by omega
             obtain⟨b,o,⟨x1,tf,te,tu⟩,rfl,hbs,hx,hc⟩:=(hrT.out.below hb.out).get hin;have f0:=hc 0 _ rfl;simp only [Nat.add_zero] at f0;clear hc;have hnx:=all_next hq.out hx;have hv1:Hid (∀ U,Calls Tryz.prog 142 #[.int .i64 x1,.slice a3 n3 c3] U fun e w'=>e= .returned (.bool (inB x1 n3))∧U=w'):=fun U=>in9_any _ _ _ _ U;have hok:okT W ⟨x1,tf,te,tu⟩=inB x1 n3:=by rw [←L3.out];rfl
             rw [hok] at hnx;obtain⟨v1,e1⟩: ∃ v,inB x1 n3=v:=⟨_,rfl⟩
             rw [e1] at hv1 hnx;have hnx:=H_ hnx;rename_i hnxX;clear hnxX e1 hx hok;go_wp2_with fail;go_upto_region 21 with fail;refine wb_ wr.heap.size ?_;intro C hC
             repeat(go_big_quiet_step (first
              |((intro _;with_reducible rfl))
              |(intro hc;have m0:=c_ hc zbn y5;have m1:=c_ hc zbb x3;have m2:=c_ hc hbs f0;simp only [m0,m1,m2,Result.andThen];exact⟨trivial,rfl⟩)
              |(intro hc;with_reducible refine(hv1.out _).mono ?_;rintro e w'' ⟨rfl,rfl⟩;exact⟨rfl,hc⟩)))
             refine wpQuiet_nil ?_;intro w9 hb9;clear hC;have hfin:=h_ hb hb9;clear hb9;go_wp2_with fail;go_roundw
             case rel=>exact⟨i+1,_,by omega,by go_num,rfl,hnx,hfin⟩
             case measure=>simp [intOf];omega
            ·have hnot:q=false∨W.trips.length≤i:=by
              rw [LT.out]
              cases q with
              |false=>exact .inl rfl
              |true=>right;have: ¬ i<nT:=fun h=>hgo ⟨h,rfl⟩;omega
             have hex:=H_ (all_exit hq.out hnot);go_upto_region 19 with fail;go_cut [160] (fun v wx=>v= .bool false∧wr=wx)
             case first=>
              by_cases h1:i<nT
              ·obtain rfl:q=false:=by cases q with
                |false=>rfl
                |true=>exact absurd ⟨h1,rfl⟩ hgo
               have h1I:(i:Int)<(nT:Int):=by omega
               go_wp2_with fail
               go_meet
               case rel=>exact⟨rfl,by first|rfl|trivial⟩
              ·have h1I:decide ((i:Int)<(nT:Int))=false:=F_ (by omega);have h1N:decide (i<nT)=false:=F_ h1;go_wp2_with fail
               go_meet
               case rel=>exact⟨rfl,by first|rfl|trivial⟩
             case rest=>
              obtain⟨rfl,rfl⟩:=hcut;have hqH:=hex;have hbH:=hb;clear hex hnot hgo hq;go_wp2_with fail;go_loopw [10,4] (fun iv qv wr=> ∃ (i:Nat) (q:Bool),i≤nH∧iv= .int .i64 i∧qv= .bool q∧Hid (q=(((((lensB W&&W.paths.all (okP W))&&W.doors.all (okD W))&&W.routes.all (okR W))&&W.trips.all (okT W))&&(W.hazs.take i).all (okH W)))∧Hid (Below w2.heap.size w2 wr)) (fun iv _ _=>nH-(intOf iv).toNat)
              case atStart=>exact⟨0,q,Nat.zero_le _,rfl,rfl,by show _=_;rw [List.take_zero,List.all_nil,Bool.and_true];exact hqH.out,hbH⟩
              case round=>
               obtain⟨i,q,hi,rfl,rfl,hq,hb⟩:=hrel;obtain⟨hX1,hX2⟩:=hX.out _ hb.out;have x0:=hX2.cell 0 rfl;have x1:=hX2.cell 1 rfl;have x3:=hX2.cell 3 rfl;have y2:=hX1.cell 7 rfl;have y3:=hX1.cell 8 rfl;have y4:=hX1.cell 9 rfl;have y5:=hX1.cell 10 rfl;have y6:=hX1.cell 11 rfl;have zbn:=hX1.lt;have zbb:=hX2.lt;clear hX1 hX2;by_cases hgo:i<nH∧q=true
               ·obtain⟨hin,rfl⟩:=hgo;have hinI:(i:Int)<(nH:Int):=by omega
                obtain⟨b,o,⟨hs,x2,hf,he,hd⟩,rfl,hbs,hx,hc⟩:=(hrH.out.below hb.out).get hin;have f0:=hc 0 _ rfl;have f1:=hc 1 _ rfl;simp only [Nat.add_zero] at f0 f1;have hnx:=all_next hq.out hx;have hok:okH W ⟨hs,x2,hf,he,hd⟩=inB x2 (if hs then n0 else n1):=by rw [←L0.out,←L1.out];rfl
                rw [hok] at hnx;have hnx:=H_ hnx;rename_i hnxX;clear hnxX hx hok hc
                cases hs with
                |true=>
                 go_wp2_with fail;refine(in9_any _ _ _ _ _).mono ?_;rintro e w9 ⟨rfl,rfl⟩;obtain⟨v1,e1⟩: ∃ v,inB x2 n0=v:=⟨_,rfl⟩
                 have hnx2:Hid (v1=(((((lensB W&&W.paths.all (okP W))&&W.doors.all (okD W))&&W.routes.all (okR W))&&W.trips.all (okT W))&&(W.hazs.take (i+1)).all (okH W))):=by show _=_;rw [←hnx.out,←e1];rfl
                 rw [e1];clear e1 hnx;go_wp2_with fail;go_roundw
                 case rel=>exact⟨i+1,_,by omega,by go_num,rfl,hnx2,hb⟩
                 case measure=>simp [intOf];omega
                |false=>
                 go_wp2_with fail;refine(in9_any _ _ _ _ _).mono ?_;rintro e w9 ⟨rfl,rfl⟩;obtain⟨v1,e1⟩: ∃ v,inB x2 n1=v:=⟨_,rfl⟩
                 have hnx2:Hid (v1=(((((lensB W&&W.paths.all (okP W))&&W.doors.all (okD W))&&W.routes.all (okR W))&&W.trips.all (okT W))&&(W.hazs.take (i+1)).all (okH W))):=by show _=_;rw [←hnx.out,←e1];rfl
                 rw [e1];clear e1 hnx;go_wp2_with fail;go_roundw
                 case rel=>exact⟨i+1,_,by omega,by go_num,rfl,hnx2,hb⟩
                 case measure=>simp [intOf];omega
               ·have hnot:q=false∨W.hazs.length≤i:=by
                 rw [LH.out]
                 cases q with
                 |false=>exact .inl rfl
                 |true=>right;have: ¬ i<nH:=fun h=>hgo ⟨h,rfl⟩;omega
                have hex:=H_ (all_exit hq.out hnot);go_upto_region 23 with fail;go_cut [179] (fun v wx=>v= .bool false∧wr=wx)
                case first=>
                 by_cases h1:i<nH
                 ·obtain rfl:q=false:=by cases q with
                   |false=>rfl
                   |true=>exact absurd ⟨h1,rfl⟩ hgo
                  have h1I:(i:Int)<(nH:Int):=by omega
                  go_wp2_with fail
                  go_meet
                  case rel=>exact⟨rfl,by first|rfl|trivial⟩
                 ·have h1I:decide ((i:Int)<(nH:Int))=false:=F_ (by omega);have h1N:decide (i<nH)=false:=F_ h1;go_wp2_with fail
                  go_meet
                  case rel=>exact⟨rfl,by first|rfl|trivial⟩
                case rest=>
                 obtain⟨rfl,rfl⟩:=hcut;have hqE:=hex;have hbE:=hb;clear hex hnot hgo hq;go_wp2_with fail;go_returns;exact⟨ret_bool hqE.out,hup.out _ hbE.out⟩
