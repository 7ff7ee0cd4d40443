/- Merged. -/
import Derived.Test.YtechdefolfboeaaGreatDoorPd37
set_option linter.unusedVariables false
set_option linter.unusedSimpArgs false
set_option maxHeartbeats 4000000
namespace Go.Proofs.YtechdefolfboeaaGreatDoor
open Go.RowKit B
def nc_ (X:ay_) (we:World) (e:Ending) (w':World):Prop:= ∃ b0 b1 b2 b3 b4 b5:Option Addr, ∃ k0 k1 k2 k3 k4 k5:Nat,e= .returned (.agg #[.slice b0 X.stops.length k0,.slice b1 X.paths.length k1,.slice b2 X.doors.length k2,.slice b3 X.routes.length k3,.slice b4 X.trips.length k4,.slice b5 X.hazs.length k5])/\
 Rd w' 1 strE b0 X.stops.length X.stops/\Rd w' 1 strE b1 X.paths.length (X.paths.map (·.name))/\Rd w' 1 strE b2 X.doors.length (X.doors.map (·.name))/\Rd w' 1 strE b3 X.routes.length (X.routes.map (·.name))/\Rd w' 1 strE b4 X.trips.length (X.trips.map (·.name))/\Rd w' 1 strE b5 X.hazs.length (X.hazs.map (·.name))/\Below we.heap.size we w'
set_option maxRecDepth 100000 in
theorem mw_ (X:ay_) (V:SV) (we:World) (hr:RS we X V) (hf:FewS X):Calls Tryz.prog 216 #[sVal X V] we (nc_ X we):=by
 obtain⟨a0,aP,aD,aR,aT,aH,n0,nP,nD,nR,nT,nH,c0,cP,cD,cR,cT,cH⟩:=V;have LP:Hd (X.paths.length=nP):=hr.rP.len;have LD:Hd (X.doors.length=nD):=hr.rD.len;have LR:Hd (X.routes.length=nR):=hr.rR.len;have LT:Hd (X.trips.length=nT):=hr.rT.len;have LH:Hd (X.hazs.length=nH):=hr.rH.len;have L0:Hd (X.stops.length=n0):=hr.r0.len;have m0:n0<=100000:=by have:=hf.s0;have:=L0.o;omega
 have mP:nP<=100000:=by have:=hf.sP;have:=LP.o;omega
 have mD:nD<=100000:=by have:=hf.sD;have:=LD.o;omega
 have mR:nR<=100000:=by have:=hf.sR;have:=LR.o;omega
 have mT:nT<=100000:=by have:=hf.sT;have:=LT.o;omega
 have mH:nH<=100000:=by have:=hf.sH;have:=LH.o;omega
 simp only [sVal];obtain⟨w1,cU,bG,B1⟩:=box0 we 136 [.int .i64 X.hz,.slice a0 n0 c0,.slice aP nP cP,.slice aD nD cD,.slice aR nR cR,.slice aT nT cT,.slice aH nH cH];obtain⟨w2,dJ,aQ,Bq⟩:=box0 w1 24 [.slice none 0 0,.slice none 0 0,.slice none 0 0,.slice none 0 0,.slice none 0 0,.slice none 0 0];have aY:=B1.below aQ;obtain⟨bn,bR⟩:=e_ we.heap.size;obtain⟨bq,cK⟩:=e_ (bn+1);have bL:w1.heap.size=bq:=by rw [<-cK, <-bR, <-cU];simp
 rw [bR] at aY;rw [bL] at Bq;have cJ:Hd (we.heap.size<=bq):=by have:=bG.size;show _<=_;omega
 have cL:Hd (∀ U,Below w2.heap.size w2 U ->Below we.heap.size we U):=fun U hU=>u_ bG (aQ.trans (hU.mono aQ.size));have hR:=(hr.below bG).below aQ;have dB:Hd (Rd w2 1 strE a0 n0 X.stops):=hR.r0;have dE:Hd (Rd w2 4 aR_ aP nP X.paths):=hR.rP;have dC:Hd (Rd w2 7 aQ_ aD nD X.doors):=hR.rD;have dF:Hd (bD_ w2 aR nR X.routes):=hR.rR;have dG:Hd (Rd w2 5 aS_ aT nT X.trips):=hR.rT;have dD:Hd (Rd w2 5 a2_ aH nH X.hazs):=hR.rH;have p1:=aY.cell 1 rfl;have aO:=ag_ w2 #[] 9;have dK:=(aY.below aO).cell 1 rfl;obtain⟨v0,w4,F,own,cI⟩:=dw_ (base:=w2.heap.size) (g:=w2.heap.size) Tryz.underlying22 ax_ rfl (by decide) ad_ c0 (bW_ w2 w2.heap.size 9 1 (Nat.le_refl _)) (dB.o.below aO) (by omega) (by decide) aO.size;obtain⟨AS,xS,dH,_⟩:=Rd.of_own ad_ L0.o own;subst dH;have bA:Below w2.heap.size w2 w4:=u_ aO cI
 have aU:=Bx.new w4 24 [.slice none 0 0,.slice none 0 0,.slice none 0 0,.slice none 0 0,.slice none 0 0,.slice none 0 0];have bP:=ag_ w4 #[.slice none 0 0,.slice none 0 0,.slice none 0 0,.slice none 0 0,.slice none 0 0,.slice none 0 0] 24;have bD:=own.alloc (.cells #[.slice none 0 0,.slice none 0 0,.slice none 0 0,.slice none 0 0,.slice none 0 0,.slice none 0 0] 24);obtain⟨w5,cV⟩:=e_ (w4.alloc (.cells #[.slice none 0 0,.slice none 0 0,.slice none 0 0,.slice none 0 0,.slice none 0 0,.slice none 0 0] 24));change Bx (w4.alloc (.cells #[.slice none 0 0,.slice none 0 0,.slice none 0 0,.slice none 0 0,.slice none 0 0,.slice none 0 0] 24)) _ _ _ at aU;rw [cV] at aU bP bD;obtain⟨bo,bS⟩:=e_ w4.heap.size;rw [bS] at aU;obtain⟨hB,d⟩:=aU.row [.slice AS n0 xS,.slice none 0 0,.slice none 0 0,.slice none 0 0,.slice none 0 0,.slice none 0 0]
 obtain⟨aE,bC⟩:=e_ (w5.setRow bo (List.toArray [.slice AS n0 xS,.slice none 0 0,.slice none 0 0,.slice none 0 0,.slice none 0 0,.slice none 0 0]));rw [bC] at hB d;have bE:=ae_ bD aU (by decide) d;have bB:w2.heap.size<=bo:=by rw [<-bS];exact bA.size
 have aZ:=u_ bA bP;have aV:Below w2.heap.size w2 aE:=aZ.trans (d.below aZ.size (m_ bB));obtain⟨uS,bM⟩:=e_ (Value.slice AS n0 xS);have bO:=hB;rw [bM] at bE bO;have Z:Hd (aE.ownsRow w2.heap.size 9 1 uS n0 (X.stops.flatMap strE)):=bE;have N:Hd (Bx aE bo 24 [uS,.slice none 0 0,.slice none 0 0,.slice none 0 0,.slice none 0 0,.slice none 0 0]):=bO;have M:Hd (bo<aE.heap.size):=hB.lt;have Y:Hd (∀ U,But aE U [bo] ->Below w2.heap.size w2 U):=fun U hU=>aV.trans (hU.below aV.size (m_ bB));have dA:Hd (∀ U,But aE U [bo] ->Bx U bq 24 [.slice none 0 0,.slice none 0 0,.slice none 0 0,.slice none 0 0,.slice none 0 0,.slice none 0 0]):=fun U hU=>Bq.below (Y.o U hU);have J:Hd (But aE aE [bo]):=But.refl _ _;have B1:=H_ aY;rename_i cW;clear cW hr hf bG aQ aY Bq hR aO own cI bA hB bO bM bP bE bB aV bD aZ d;go_enter Tryz.func216,Tryz.ntmps216
 go_wp2_with (first|(at_builtin;refine ap_ (.tmp 9) (.tmp 11) 22 F ?_)|(with_reducible refine ac_ (.tmp 3) (.tmp 13) 24 (by with_reducible rfl) ?x1 ?x2 ?x3 aU ?x4 ?x5 ?x6 bC ?_))
 all_goals try kernel_rfl
 clear F aU cV cU dJ bR cK bL bS p1 dK bC
 go_wp2
 go_loopw [4] (fun iv wr=> ∃ (i:Nat) (u:Value),i<=nP/\iv= .int .i64 i/\Hd (Bx wr bo 24 [uS,u,.slice none 0 0,.slice none 0 0,.slice none 0 0,.slice none 0 0])/\Hd (wr.ownsRow aE.heap.size 9 1 u i (((X.paths.take i).map (·.name)).flatMap strE))/\Hd (But aE wr [bo])) (fun iv _=>nP-(intOf iv).toNat)
 ·exact⟨0,.slice none 0 0,Nat.zero_le _,rfl,N,World.ownsRow_nil _ _ _ _,But.refl _ _⟩
 ·obtain⟨i,u,hi,rfl,n,own,j⟩:=hrel;have p:=Y.o _ (J.o.trans j.o);have y0:=(B1.o.below p).cell 2 rfl;by_cases k:i<nP
  ·have aW:(i:Int)<(nP:Int):=by omega
   obtain⟨b,o,⟨q0,q1,q2,q3⟩,rfl,aK,hx,aF⟩:=dE.o.get k;have f0:=aF 0 _ rfl;simp only [Nat.add_zero] at f0;clear aF;have aA:(X.paths.take (i+1)).map (·.name)=(X.paths.take i).map (·.name)++[q0]:=by rw [an_ hx,List.map_append,List.map_singleton]
   have Q:((X.paths.take i).map (·.name)).length =i:=by rw [List.length_map,List.length_take,LP.o];omega
   clear hx
   go_wp2
   refine wl_ [0,0,0,0,0,0,0,0,2,2,2,2] ?_;intro C hC;simp only [af_,Nat.reduceEqDiff, ↓reduceIte]
   repeat(go_big_quiet_step (first
    |(intro _;with_reducible rfl)
    |(intro hc;have hR:=J.o.trans (j.o.trans (But.of_below hc _));have e:=Y.o _ hR;simp only [(n.o.below hc).cell 1 rfl,(B1.o.below e).cell 2 rfl,c_ e aK f0,Result.andThen];exact⟨trivial,rfl⟩)))
   clear hC;intro C' aI;clear aI;intro wq L;obtain⟨W1,W2,W3,va,vb,h1,h2,h3,⟨_,b2,b3⟩,⟨_,_,t3⟩,_,F,D,gv,cv,aN⟩:=ci_ (enc:=strE) Tryz.underlying22 ax_ rfl (by decide) ad_ aH_ (by decide) (f:=1) (T:=24) q0 (n.o.below L) (aa_ own.o L) Q (by omega) M.o (j.o.trans (But.of_below L _));rw [<-aA] at D;have D:=H_ D;have aJ:Hd (Bx W3 bo 24 [uS,vb,.slice none 0 0,.slice none 0 0,.slice none 0 0,.slice none 0 0]):=b3;have aL:=H_ t3;have v5:=b2.cell 1 rfl;have v6:=b2.frozen 1;subst h1 h2 aN;have F:(Builtin.append_ #[22,22] 22 #[u,.slice (some ⟨wq.heap.size,0,none⟩) 1 1]).run Tryz.prog (wq.alloc (.cells #[.string q0] 9))= .ok (.slice (some ⟨gv,0,none⟩) (i+1) cv) W2:=F;rename_i k1 k2 k3 k4;clear k1 k2 k3 k4 aA Q b2 b3 t3 own n j L p;go_wp2_with (at_builtin;refine ap_ (.tmp 22) (.tmp 29) 22 F ?_);go_roundw
   ·exact⟨i+1,_,by omega,by go_num,aJ,D,aL⟩
   ·simp [intOf];omega
  ·obtain rfl:nP=i:=by omega
   have y: ∀ {z m:Nat} {v:Value} {xs:List Value} {b:Nat},aE.ownsRow b 9 z v m xs ->wr.ownsRow b 9 z v m xs:=fun h=>ae_ h N.o (by decide) j.o;have R:=H_ (y Z.o);have c:Hd (wr.ownsRow aE.heap.size 9 1 u nP ((X.paths.map (·.name)).flatMap strE)):=by have:=own.o;rw [List.take_of_length_le (by rw [LP.o];omega)] at this;exact this
   have S:=H_ (J.o.trans j.o);have P:=n;have G:Hd (bo<wr.heap.size):=n.o.lt;obtain⟨uP,cO⟩: ∃ q,q=u:=⟨_,rfl⟩
   subst cO;obtain⟨bH,cB⟩: ∃ q,q=wr:=⟨_,rfl⟩
   subst cB;clear y own n j J N M hi k p;clear Z;have Z:=R;have J:=S;have N:=P;have M:=G;clear S P G R
   go_wp2
   go_loopw [5] (fun iv wr=> ∃ (i:Nat) (u:Value),i<=nD/\iv= .int .i64 i/\Hd (Bx wr bo 24 [uS,uP,u,.slice none 0 0,.slice none 0 0,.slice none 0 0])/\Hd (wr.ownsRow bH.heap.size 9 1 u i (((X.doors.take i).map (·.name)).flatMap strE))/\Hd (But bH wr [bo])) (fun iv _=>nD-(intOf iv).toNat)
   ·exact⟨0,.slice none 0 0,Nat.zero_le _,rfl,N,World.ownsRow_nil _ _ _ _,But.refl _ _⟩
   ·obtain⟨i,u,hi,rfl,n,own,j⟩:=hrel;have p:=Y.o _ (J.o.trans j.o);have y0:=(B1.o.below p).cell 3 rfl;by_cases k:i<nD
    ·have aW:(i:Int)<(nD:Int):=by omega
     obtain⟨b,o,⟨q0,q1,q2,q3,q4,q5,q6⟩,rfl,aK,hx,aF⟩:=dC.o.get k;have f0:=aF 0 _ rfl;simp only [Nat.add_zero] at f0;clear aF;have aA:(X.doors.take (i+1)).map (·.name)=(X.doors.take i).map (·.name)++[q0]:=by rw [an_ hx,List.map_append,List.map_singleton]
     have Q:((X.doors.take i).map (·.name)).length =i:=by rw [List.length_map,List.length_take,LD.o];omega
     clear hx
     go_wp2
     refine wl_ [0,0,0,0,0,0,0,0,2,2,2,2] ?_;intro C hC;simp only [af_,Nat.reduceEqDiff, ↓reduceIte]
     repeat(go_big_quiet_step (first
      |(intro _;with_reducible rfl)
      |(intro hc;have hR:=J.o.trans (j.o.trans (But.of_below hc _));have e:=Y.o _ hR;simp only [(n.o.below hc).cell 2 rfl,(B1.o.below e).cell 3 rfl,c_ e aK f0,Result.andThen];exact⟨trivial,rfl⟩)))
     clear hC;intro C' aI;clear aI;intro wq L;obtain⟨W1,W2,W3,va,vb,h1,h2,h3,⟨_,b2,b3⟩,⟨_,_,t3⟩,_,F,D,gv,cv,aN⟩:=ci_ (enc:=strE) Tryz.underlying22 ax_ rfl (by decide) ad_ aH_ (by decide) (f:=2) (T:=24) q0 (n.o.below L) (aa_ own.o L) Q (by omega) M.o (j.o.trans (But.of_below L _));rw [<-aA] at D;have D:=H_ D;have aJ:Hd (Bx W3 bo 24 [uS,uP,vb,.slice none 0 0,.slice none 0 0,.slice none 0 0]):=b3;have aL:=H_ t3;have v5:=b2.cell 2 rfl;have v6:=b2.frozen 2;subst h1 h2 aN;have F:(Builtin.append_ #[22,22] 22 #[u,.slice (some ⟨wq.heap.size,0,none⟩) 1 1]).run Tryz.prog (wq.alloc (.cells #[.string q0] 9))= .ok (.slice (some ⟨gv,0,none⟩) (i+1) cv) W2:=F;rename_i k1 k2 k3 k4;clear k1 k2 k3 k4 aA Q b2 b3 t3 own n j L p;go_wp2_with (at_builtin;refine ap_ (.tmp 40) (.tmp 47) 22 F ?_);go_roundw
     ·exact⟨i+1,_,by omega,by go_num,aJ,D,aL⟩
     ·simp [intOf];omega
    ·obtain rfl:nD=i:=by omega
     have y: ∀ {z m:Nat} {v:Value} {xs:List Value} {b:Nat},bH.ownsRow b 9 z v m xs ->wr.ownsRow b 9 z v m xs:=fun h=>ae_ h N.o (by decide) j.o;have R:=H_ (y Z.o);have a:=H_ (y c.o);have aC:Hd (wr.ownsRow bH.heap.size 9 1 u nD ((X.doors.map (·.name)).flatMap strE)):=by have:=own.o;rw [List.take_of_length_le (by rw [LD.o];omega)] at this;exact this
     have S:=H_ (J.o.trans j.o);have P:=n;have G:Hd (bo<wr.heap.size):=n.o.lt;obtain⟨uD,cM⟩: ∃ q,q=u:=⟨_,rfl⟩
     subst cM;obtain⟨bI,cC⟩: ∃ q,q=wr:=⟨_,rfl⟩
     subst cC;clear y own n j J N M hi k p;clear Z c;have Z:=R;have c:=a;have J:=S;have N:=P;have M:=G;clear S P G R a
     go_wp2
     go_loopw [6] (fun iv wr=> ∃ (i:Nat) (u:Value),i<=nR/\iv= .int .i64 i/\Hd (Bx wr bo 24 [uS,uP,uD,u,.slice none 0 0,.slice none 0 0])/\Hd (wr.ownsRow bI.heap.size 9 1 u i (((X.routes.take i).map (·.name)).flatMap strE))/\Hd (But bI wr [bo])) (fun iv _=>nR-(intOf iv).toNat)
     ·exact⟨0,.slice none 0 0,Nat.zero_le _,rfl,N,World.ownsRow_nil _ _ _ _,But.refl _ _⟩
     ·obtain⟨i,u,hi,rfl,n,own,j⟩:=hrel;have p:=Y.o _ (J.o.trans j.o);have y0:=(B1.o.below p).cell 4 rfl;by_cases k:i<nR
      ·have aW:(i:Int)<(nR:Int):=by omega
       obtain⟨b,o,r,rfl,aK,hx,f0,_⟩:=dF.o.get k;have aA:(X.routes.take (i+1)).map (·.name)=(X.routes.take i).map (·.name)++[r.name]:=by rw [an_ hx,List.map_append,List.map_singleton]
       have Q:((X.routes.take i).map (·.name)).length =i:=by rw [List.length_map,List.length_take,LR.o];omega
       clear hx
       go_wp2
       refine wl_ [0,0,0,0,0,0,0,0,2,2,2,2] ?_;intro C hC;simp only [af_,Nat.reduceEqDiff, ↓reduceIte]
       repeat(go_big_quiet_step (first
        |(intro _;with_reducible rfl)
        |(intro hc;have hR:=J.o.trans (j.o.trans (But.of_below hc _));have e:=Y.o _ hR;simp only [(n.o.below hc).cell 3 rfl,(B1.o.below e).cell 4 rfl,c_ e aK f0,Result.andThen];exact⟨trivial,rfl⟩)))
       clear hC;intro C' aI;clear aI;intro wq L;obtain⟨W1,W2,W3,va,vb,h1,h2,h3,⟨_,b2,b3⟩,⟨_,_,t3⟩,_,F,D,gv,cv,aN⟩:=ci_ (enc:=strE) Tryz.underlying22 ax_ rfl (by decide) ad_ aH_ (by decide) (f:=3) (T:=24) r.name (n.o.below L) (aa_ own.o L) Q (by omega) M.o (j.o.trans (But.of_below L _));rw [<-aA] at D;have D:=H_ D;have aJ:Hd (Bx W3 bo 24 [uS,uP,uD,vb,.slice none 0 0,.slice none 0 0]):=b3;have aL:=H_ t3;have v5:=b2.cell 3 rfl;have v6:=b2.frozen 3;subst h1 h2 aN;have F:(Builtin.append_ #[22,22] 22 #[u,.slice (some ⟨wq.heap.size,0,none⟩) 1 1]).run Tryz.prog (wq.alloc (.cells #[.string r.name] 9))= .ok (.slice (some ⟨gv,0,none⟩) (i+1) cv) W2:=F;rename_i k1 k2 k3 k4;clear k1 k2 k3 k4 aA Q b2 b3 t3 own n j L p;go_wp2_with (at_builtin;refine ap_ (.tmp 58) (.tmp 65) 22 F ?_);go_roundw
       ·exact⟨i+1,_,by omega,by go_num,aJ,D,aL⟩
       ·simp [intOf];omega
      ·obtain rfl:nR=i:=by omega
       have y: ∀ {z m:Nat} {v:Value} {xs:List Value} {b:Nat},bI.ownsRow b 9 z v m xs ->wr.ownsRow b 9 z v m xs:=fun h=>ae_ h N.o (by decide) j.o;have R:=H_ (y Z.o);have a:=H_ (y c.o);have aB:=H_ (y aC.o);have aM:Hd (wr.ownsRow bI.heap.size 9 1 u nR ((X.routes.map (·.name)).flatMap strE)):=by have:=own.o;rw [List.take_of_length_le (by rw [LR.o];omega)] at this;exact this
       have S:=H_ (J.o.trans j.o);have P:=n;have G:Hd (bo<wr.heap.size):=n.o.lt;obtain⟨uR,cQ⟩: ∃ q,q=u:=⟨_,rfl⟩
       subst cQ;obtain⟨bJ,cE⟩: ∃ q,q=wr:=⟨_,rfl⟩
       subst cE;clear y own n j J N M hi k p;clear Z c aC;have Z:=R;have c:=a;have aC:=aB;have J:=S;have N:=P;have M:=G;clear S P G R a aB
       go_wp2
       go_loopw [7] (fun iv wr=> ∃ (i:Nat) (u:Value),i<=nT/\iv= .int .i64 i/\Hd (Bx wr bo 24 [uS,uP,uD,uR,u,.slice none 0 0])/\Hd (wr.ownsRow bJ.heap.size 9 1 u i (((X.trips.take i).map (·.name)).flatMap strE))/\Hd (But bJ wr [bo])) (fun iv _=>nT-(intOf iv).toNat)
       ·exact⟨0,.slice none 0 0,Nat.zero_le _,rfl,N,World.ownsRow_nil _ _ _ _,But.refl _ _⟩
       ·obtain⟨i,u,hi,rfl,n,own,j⟩:=hrel;have p:=Y.o _ (J.o.trans j.o);have y0:=(B1.o.below p).cell 5 rfl;by_cases k:i<nT
        ·have aW:(i:Int)<(nT:Int):=by omega
         obtain⟨b,o,⟨q0,q1,q2,q3,q4⟩,rfl,aK,hx,aF⟩:=dG.o.get k;have f0:=aF 0 _ rfl;simp only [Nat.add_zero] at f0;clear aF;have aA:(X.trips.take (i+1)).map (·.name)=(X.trips.take i).map (·.name)++[q0]:=by rw [an_ hx,List.map_append,List.map_singleton]
         have Q:((X.trips.take i).map (·.name)).length =i:=by rw [List.length_map,List.length_take,LT.o];omega
         clear hx
         go_wp2
         refine wl_ [0,0,0,0,0,0,0,0,2,2,2,2] ?_;intro C hC;simp only [af_,Nat.reduceEqDiff, ↓reduceIte]
         repeat(go_big_quiet_step (first
          |(intro _;with_reducible rfl)
          |(intro hc;have hR:=J.o.trans (j.o.trans (But.of_below hc _));have e:=Y.o _ hR;simp only [(n.o.below hc).cell 4 rfl,(B1.o.below e).cell 5 rfl,c_ e aK f0,Result.andThen];exact⟨trivial,rfl⟩)))
         clear hC;intro C' aI;clear aI;intro wq L;obtain⟨W1,W2,W3,va,vb,h1,h2,h3,⟨_,b2,b3⟩,⟨_,_,t3⟩,_,F,D,gv,cv,aN⟩:=ci_ (enc:=strE) Tryz.underlying22 ax_ rfl (by decide) ad_ aH_ (by decide) (f:=4) (T:=24) q0 (n.o.below L) (aa_ own.o L) Q (by omega) M.o (j.o.trans (But.of_below L _));rw [<-aA] at D;have D:=H_ D;have aJ:Hd (Bx W3 bo 24 [uS,uP,uD,uR,vb,.slice none 0 0]):=b3;have aL:=H_ t3;have v5:=b2.cell 4 rfl;have v6:=b2.frozen 4;subst h1 h2 aN;have F:(Builtin.append_ #[22,22] 22 #[u,.slice (some ⟨wq.heap.size,0,none⟩) 1 1]).run Tryz.prog (wq.alloc (.cells #[.string q0] 9))= .ok (.slice (some ⟨gv,0,none⟩) (i+1) cv) W2:=F;rename_i k1 k2 k3 k4;clear k1 k2 k3 k4 aA Q b2 b3 t3 own n j L p;go_wp2_with (at_builtin;refine ap_ (.tmp 76) (.tmp 83) 22 F ?_);go_roundw
         ·exact⟨i+1,_,by omega,by go_num,aJ,D,aL⟩
         ·simp [intOf];omega
        ·obtain rfl:nT=i:=by omega
         have y: ∀ {z m:Nat} {v:Value} {xs:List Value} {b:Nat},bJ.ownsRow b 9 z v m xs ->wr.ownsRow b 9 z v m xs:=fun h=>ae_ h N.o (by decide) j.o;have R:=H_ (y Z.o);have a:=H_ (y c.o);have aB:=H_ (y aC.o);have aS:=H_ (y aM.o);have aX:Hd (wr.ownsRow bJ.heap.size 9 1 u nT ((X.trips.map (·.name)).flatMap strE)):=by have:=own.o;rw [List.take_of_length_le (by rw [LT.o];omega)] at this;exact this
         have S:=H_ (J.o.trans j.o);have P:=n;have G:Hd (bo<wr.heap.size):=n.o.lt;obtain⟨uT,cS⟩: ∃ q,q=u:=⟨_,rfl⟩
         subst cS;obtain⟨bK,cF⟩: ∃ q,q=wr:=⟨_,rfl⟩
         subst cF;clear y own n j J N M hi k p;clear Z c aC aM;have Z:=R;have c:=a;have aC:=aB;have aM:=aS;have J:=S;have N:=P;have M:=G;clear S P G R a aB aS
         go_wp2
         go_loopw [8] (fun iv wr=> ∃ (i:Nat) (u:Value),i<=nH/\iv= .int .i64 i/\Hd (Bx wr bo 24 [uS,uP,uD,uR,uT,u])/\Hd (wr.ownsRow bK.heap.size 9 1 u i (((X.hazs.take i).map (·.name)).flatMap strE))/\Hd (But bK wr [bo])) (fun iv _=>nH-(intOf iv).toNat)
         ·exact⟨0,.slice none 0 0,Nat.zero_le _,rfl,N,World.ownsRow_nil _ _ _ _,But.refl _ _⟩
         ·obtain⟨i,u,hi,rfl,n,own,j⟩:=hrel;have p:=Y.o _ (J.o.trans j.o);have y0:=(B1.o.below p).cell 6 rfl;by_cases k:i<nH
          ·have aW:(i:Int)<(nH:Int):=by omega
           obtain⟨b,o,⟨q0,q1,q2,q3,q4⟩,rfl,aK,hx,aF⟩:=dD.o.get k;have f0:=aF 0 _ rfl;simp only [Nat.add_zero] at f0;clear aF;have aA:(X.hazs.take (i+1)).map (·.name)=(X.hazs.take i).map (·.name)++[q0]:=by rw [an_ hx,List.map_append,List.map_singleton]
           have Q:((X.hazs.take i).map (·.name)).length =i:=by rw [List.length_map,List.length_take,LH.o];omega
           clear hx
           go_wp2
           refine wl_ [0,0,0,0,0,0,0,0,2,2,2,2] ?_;intro C hC;simp only [af_,Nat.reduceEqDiff, ↓reduceIte]
           repeat(go_big_quiet_step (first
            |(intro _;with_reducible rfl)
            |(intro hc;have hR:=J.o.trans (j.o.trans (But.of_below hc _));have e:=Y.o _ hR;simp only [(n.o.below hc).cell 5 rfl,(B1.o.below e).cell 6 rfl,c_ e aK f0,Result.andThen];exact⟨trivial,rfl⟩)))
           clear hC;intro C' aI;clear aI;intro wq L;obtain⟨W1,W2,W3,va,vb,h1,h2,h3,⟨_,b2,b3⟩,⟨_,_,t3⟩,_,F,D,gv,cv,aN⟩:=ci_ (enc:=strE) Tryz.underlying22 ax_ rfl (by decide) ad_ aH_ (by decide) (f:=5) (T:=24) q0 (n.o.below L) (aa_ own.o L) Q (by omega) M.o (j.o.trans (But.of_below L _));rw [<-aA] at D;have D:=H_ D;have aJ:Hd (Bx W3 bo 24 [uS,uP,uD,uR,uT,vb]):=b3;have aL:=H_ t3;have v5:=b2.cell 5 rfl;have v6:=b2.frozen 5;subst h1 h2 aN;have F:(Builtin.append_ #[22,22] 22 #[u,.slice (some ⟨wq.heap.size,0,none⟩) 1 1]).run Tryz.prog (wq.alloc (.cells #[.string q0] 9))= .ok (.slice (some ⟨gv,0,none⟩) (i+1) cv) W2:=F;rename_i k1 k2 k3 k4;clear k1 k2 k3 k4 aA Q b2 b3 t3 own n j L p;go_wp2_with (at_builtin;refine ap_ (.tmp 94) (.tmp 101) 22 F ?_);go_roundw
           ·exact⟨i+1,_,by omega,by go_num,aJ,D,aL⟩
           ·simp [intOf];omega
          ·obtain rfl:nH=i:=by omega
           have y: ∀ {z m:Nat} {v:Value} {xs:List Value} {b:Nat},bK.ownsRow b 9 z v m xs ->wr.ownsRow b 9 z v m xs:=fun h=>ae_ h N.o (by decide) j.o;have R:=H_ (y Z.o);have a:=H_ (y c.o);have aB:=H_ (y aC.o);have aS:=H_ (y aM.o);have bN:=H_ (y aX.o);have bZ:Hd (wr.ownsRow bK.heap.size 9 1 u nH ((X.hazs.map (·.name)).flatMap strE)):=by have:=own.o;rw [List.take_of_length_le (by rw [LH.o];omega)] at this;exact this
           have S:=H_ (J.o.trans j.o);have P:=n;have G:Hd (bo<wr.heap.size):=n.o.lt;obtain⟨uH,cN⟩: ∃ q,q=u:=⟨_,rfl⟩
           subst cN;obtain⟨dL,cG⟩: ∃ q,q=wr:=⟨_,rfl⟩
           subst cG;clear y own n j J N M hi k p;clear Z c aC aM aX;have Z:=R;have c:=a;have aC:=aB;have aM:=aS;have aX:=bN;have J:=S;have N:=P;have M:=G;clear S P G R a aB aS bN;have bT:X.stops.length=n0:=L0.o;obtain⟨A0,x0,e0,_⟩:=Rd.of_own ad_ bT Z.o;have bU:(X.paths.map (·.name)).length =nP:=by rw [List.length_map];exact LP.o
           obtain⟨A1,x1,e1,_⟩:=Rd.of_own ad_ bU c.o;have bV:(X.doors.map (·.name)).length =nD:=by rw [List.length_map];exact LD.o
           obtain⟨A2,x2,e2,_⟩:=Rd.of_own ad_ bV aC.o;have bW:(X.routes.map (·.name)).length =nR:=by rw [List.length_map];exact LR.o
           obtain⟨A3,x3,e3,_⟩:=Rd.of_own ad_ bW aM.o;have bX:(X.trips.map (·.name)).length =nT:=by rw [List.length_map];exact LT.o
           obtain⟨A4,x4,e4,_⟩:=Rd.of_own ad_ bX aX.o;have bY:(X.hazs.map (·.name)).length =nH:=by rw [List.length_map];exact LH.o
           obtain⟨A5,x5,e5,_⟩:=Rd.of_own ad_ bY bZ.o;subst e0 e1 e2 e3 e4 e5;have aG:=dA.o _ J.o;obtain⟨bF,d⟩:=aG.row [.slice A0 n0 x0,.slice A1 nP x1,.slice A2 nD x2,.slice A3 nR x3,.slice A4 nT x4,.slice A5 nH x5];obtain⟨wF,cA⟩:=e_ (dL.setRow bq (List.toArray [.slice A0 n0 x0,.slice A1 nP x1,.slice A2 nD x2,.slice A3 nR x3,.slice A4 nT x4,.slice A5 nH x5]));rw [cA] at bF d;have r0:=H_ (bl_ ad_ bT (ae_ Z.o aG (by decide) d));have r1:=H_ (bl_ ad_ bU (ae_ c.o aG (by decide) d));have r2:=H_ (bl_ ad_ bV (ae_ aC.o aG (by decide) d));have r3:=H_ (bl_ ad_ bW (ae_ aM.o aG (by decide) d));have r4:=H_ (bl_ ad_ bX (ae_ aX.o aG (by decide) d));have r5:=H_ (bl_ ad_ bY (ae_ bZ.o aG (by decide) d));have bQ:Hd (Below we.heap.size we wF):=(cL.o _ (Y.o _ J.o)).trans (d.below (cL.o _ (Y.o _ J.o)).size (m_ cJ.o));have aG:=H_ aG;have bF:=H_ bF;rename_i cX cY;clear cX cY d bT bU bV bW bX bY Z c aC aM aX bZ
           go_upto_region 22 with fail;refine wp_region_lit ?_;refine cO_ (.tmp 3) 24 rfl rfl rfl N.o (by kernel_rfl) (by kernel_rfl) ?_;refine ac_ (.tmp 2) (.tmp 104) 24 rfl rfl rfl rfl aG.o (by kernel_rfl) rfl rfl cA ?_;refine wpList_nil ?_;clear cA N;rename_i cZ;refine cZ _ _ (wp_ret ?_);refine ar_ (s:=2) (t:=24) rfl rfl bF.o (by kernel_rfl) (by kernel_rfl) rfl ?_;refine⟨A0,A1,A2,A3,A4,A5,x0,x1,x2,x3,x4,x5,?_,?_⟩
           ·rw [L0.o,LP.o,LD.o,LR.o,LT.o,LH.o]
           ·rw [L0.o,LP.o,LD.o,LR.o,LT.o,LH.o];exact⟨r0.o,r1.o,r2.o,r3.o,r4.o,r5.o,bQ.o⟩
