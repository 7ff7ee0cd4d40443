/- Merged. -/
import Derived.Laws.EntriesVeiled
import Derived.Test.YtechdefolfboeaaGreatDoorPd14
set_option linter.unusedVariables false
set_option linter.unusedSimpArgs false
set_option maxRecDepth 100000
set_option maxHeartbeats 2000000
namespace Go.Proofs.YtechdefolfboeaaGreatDoor
open Go.RowKit B K
theorem lT_ {α:Type} {l:List α} {p:α ->Bool} {q:Nat ->Bool} {n:Nat} (hn:l.length=n) (h: ∀ i x,l[i]?=some x ->q i=p x):(List.range n).any q=l.any p:=by
 rw [Bool.eq_iff_iff];simp only [List.any_eq_true,List.mem_range];constructor
 ·rintro⟨i,g,y⟩;have f:=List.getElem?_eq_getElem (l:=l) (i:=i) (by omega);exact⟨_,List.mem_of_getElem? f,by rw [<-h i _ f];exact y⟩
 ·rintro⟨x,f,j⟩;obtain⟨i,g⟩:=List.getElem?_of_mem f;exact⟨i,by have:=(List.getElem?_eq_some_iff.1 g).1;omega,by rw [h i x g];exact j⟩
theorem de_ {α:Type} (l:List α) (p:α ->Bool):(l.any fun x=> !p x)= !l.all p:=by
 induction l with
 |nil=>rfl
 |cons x l ih=>rw [List.any_cons,List.all_cons,ih];cases p x<;>rfl
theorem lk_ (M:ab_) (V:WV) (we:World) (hr:RW we M V) (hf:Few M):Calls Tryz.prog 93 #[wVal M V] we (rb_ (.bool (bS_ M)) we):=by
 obtain⟨a0,a1,a2,a3,a4,a5,aP,aD,aR,aT,aH,k,Z,a,b,c,d,P,L,F,Q,N,c0,c1,c2,c3,c4,c5,cP,cD,cR,cT,cH⟩:=V;have l0:M.stops.length=k:=hr.r0.len;have l1:M.nPaths.length=Z:=hr.r1.len;have l3:M.nRoutes.length=b:=hr.r3.len
 have hL:b2_ M= !(decide (Z≠P)||(decide (a≠L)||(decide (b≠F)||(decide (c≠Q)||decide (d≠N))))):=by
  have h2:M.nDoors.length=a:=hr.r2.len;have h4:M.nTrips.length=c:=hr.r4.len;have h5:M.nHazs.length=d:=hr.r5.len;have hP:M.paths.length=P:=hr.rP.len;have hD:M.doors.length=L:=hr.rD.len;have hR:M.routes.length=F:=hr.rR.len;have hT:M.trips.length=Q:=hr.rT.len;have hH:M.hazs.length=N:=hr.rH.len;unfold b2_;rw [l1,h2,l3,h4,h5,hP,hD,hR,hT,hH];rw [Bool.eq_iff_iff];simp only [Bool.and_eq_true,decide_eq_true_eq,Bool.not_eq_true',Bool.or_eq_false_iff,decide_eq_false_iff_not,Decidable.not_not]
 have mP:P<=100000:=by rw [<-show M.paths.length=P from hr.rP.len];exact hf.sP
 have mD:L<=100000:=by rw [<-show M.doors.length=L from hr.rD.len];exact hf.sD
 have mR:F<=100000:=by rw [<-show M.routes.length=F from hr.rR.len];exact hf.sR
 have mT:Q<=100000:=by rw [<-show M.trips.length=Q from hr.rT.len];exact hf.sT
 have mH:N<=100000:=by rw [<-show M.hazs.length=N from hr.rH.len];exact hf.sH
 have lR:M.routes.length=F:=hr.rR.len;have bO:=H_ hf.sr;simp only [wVal];obtain⟨w1,b1,z,f,bN,aZ,B1,bR⟩:=cm_ we 31 [.int .i64 M.hz,.slice a0 k c0,.slice a1 Z c1,.slice a2 a c2,.slice a3 b c3,.slice a4 c c4,.slice a5 d c5,.slice aP P cP,.slice aD L cD,.slice aR F cR,.slice aT Q cT,.slice aH N cH];have bL:=H_ (hr.below aZ.o);obtain⟨p0,p1,p2,p3,p4,p5,p6,p7,p8,p9,bU,bV⟩:=c_12 B1;have aL:=H_ B1;clear hr hf B1 bN;obtain⟨wn,bn,D,g,X,aK⟩:=box1 w1 24 [.slice a0 k c0,.slice a1 Z c1,.slice a2 a c2,.slice a3 b c3,.slice a4 c c4,.slice a5 d c5];have Y:=h_ aZ X;have bM:=H_ (bL.o.below X);obtain⟨z0,z1,z2,z3,z4,z5⟩:=c_6 aK;have aM:=H_ (aL.o.below X);obtain⟨r0,r1,r2,r3,r4,r5,r6,r7,r8,r9,bW,bX⟩:=c_12 aM.o;have aQ:=H_ aK;clear aK X aL;have n:=H_ hL;clear hL;have q:Hd (bS_ M=(((((b2_ M&&M.paths.all (okP M))&&M.doors.all (okD M))&&M.routes.all (okR M))&&M.trips.all (okT M))&&M.hazs.all (okH M))):=rfl
 by_cases e0:Z=P
 ·have d0:((Z:Int) !=(P:Int))=false:=by simp [e0]
  replace e0:=H_ e0;by_cases e1:a=L
  ·have d1:((a:Int) !=(L:Int))=false:=by simp [e1]
   replace e1:=H_ e1;by_cases e2:b=F
   ·have d2:((b:Int) !=(F:Int))=false:=by simp [e2]
    replace e2:=H_ e2;by_cases e3:c=Q
    ·have d3:((c:Int) !=(Q:Int))=false:=by simp [e3]
     replace e3:=H_ e3;by_cases e4:d=N
     ·have d4:((d:Int) !=(N:Int))=false:=by simp [e4]
      replace e4:=H_ e4;have hl:Hd (b2_ M=true):=by show _=_;rw [n.o];simp [e0.o,e1.o,e2.o,e3.o,e4.o]
      have R:Hd (bS_ M=((((M.paths.all (okP M)&&M.doors.all (okD M))&&M.routes.all (okR M))&&M.trips.all (okT M))&&M.hazs.all (okH M))):=by show _=_;rw [q.o,hl.o];simp
      clear hl q n e0 e1 e2 e3 e4;obtain⟨wa,ba,aG,G,aF,aN⟩:=box1 wn 154 [.func (.func 117) #[] #[]];obtain⟨y,S,aI,J,U,aO⟩:=box1 wa 123 [.func (.func 118) #[] #[.pointer (some ⟨ba,0,none⟩),.pointer (some ⟨bn,0,none⟩)]];have T:=u_ aF U
      have aC:Hd (WC y bn ba S ⟨a0,a1,a2,a3,a4,a5,aP,aD,aR,aT,aH,k,Z,a,b,c,d,P,L,F,Q,N,c0,c1,c2,c3,c4,c5,cP,cD,cR,cT,cH⟩):=by
       have h1:=(aQ.o.below aF).below U;exact⟨(aN.below U).cell 0 rfl,aO.cell 0 rfl,h1.cell 0 rfl,h1.cell 1 rfl,h1.cell 3 rfl⟩
      have aA:=H_ (bM.o.below T);have bK:=H_ (aM.o.below T);have aE:=h_ Y T;obtain⟨LR,aJ,aB⟩:=aA.o.rR.rows;replace aJ:=H_ aJ;replace aB:=H_ aB
      let qR:Nat ->Bool:=fun i=>match M.routes[i]? with|some r=>r.stops.any fun s=> !inB s k|none=>false
      have aY:Hd ((List.range F).any qR= !M.routes.all (okR M)):=by
       show _=_;rw [<-de_];refine lT_ lR fun i x hx=>?_;show(match M.routes[i]? with|some r=>r.stops.any fun s=> !inB s k|none=>false)=_;simp only [hx];unfold okR;rw [l0,de_]
      have wS: ∀ v,y.cell? ⟨b1,v,none⟩=y.cell? ⟨b1,v,none⟩:=fun _=>rfl;clear wS
      have aS:Hd (∀ w,Below y.heap.size y w ->Calls Tryz.prog 119 #[.slice aP P cP,.func (.func 120) #[] #[.pointer (some ⟨S,0,none⟩)]] w (rb_ (.bool (!M.paths.all (okP M))) w)):=fun w h=>by
       rw [<-de_];exact(no_ 120 #[.pointer (some ⟨S,0,none⟩)] (enters_of Tryz.func120 (by kernel_rfl) rfl) (fun p=> !okP M p) aP P cP M.paths w (aA.o.rP.below h) (by omega) (fun W x hb _=>by have:=mL_ bn ba S ⟨a0,a1,a2,a3,a4,a5,aP,aD,aR,aT,aH,k,Z,a,b,c,d,P,L,F,Q,N,c0,c1,c2,c3,c4,c5,cP,cD,cR,cT,cH⟩ x W (aC.o.below (u_ h hb));unfold okP;rw [l0];exact this))
      have aU:Hd (∀ w,Below y.heap.size y w ->Calls Tryz.prog 121 #[.slice aD L cD,.func (.func 122) #[] #[.pointer (some ⟨S,0,none⟩)]] w (rb_ (.bool (!M.doors.all (okD M))) w)):=fun w h=>by
       rw [<-de_];exact(nk_ 122 #[.pointer (some ⟨S,0,none⟩)] (enters_of Tryz.func122 (by kernel_rfl) rfl) (fun p=> !okD M p) aD L cD M.doors w (aA.o.rD.below h) (by omega) (fun W x hb _=>by have:=mM_ bn ba S ⟨a0,a1,a2,a3,a4,a5,aP,aD,aR,aT,aH,k,Z,a,b,c,d,P,L,F,Q,N,c0,c1,c2,c3,c4,c5,cP,cD,cR,cT,cH⟩ x W (aC.o.below (u_ h hb));unfold okD;rw [l0];exact this))
      have aV:Hd (∀ w,Below y.heap.size y w ->Calls Tryz.prog 123 #[.slice aR F cR,.func (.func 124) #[] #[.pointer (some ⟨S,0,none⟩)]] w (rb_ (.bool (!M.routes.all (okR M))) w)):=fun w h=>by
       rw [<-aY.o]
       exact(np_ 124 #[.pointer (some ⟨S,0,none⟩)] (enters_of Tryz.func124 (by kernel_rfl) rfl) qR aR F cR LR w (aJ.o.below h) (by omega) (fun W i x hb hx=>by
        obtain⟨r,hr⟩: ∃ r,M.routes[i]?=some r:=⟨_,List.getElem?_eq_getElem (by have h1:=(List.getElem?_eq_some_iff.1 hx).1;have h2:=aB.o.len;omega)⟩
        have hT:=aB.o.at_ i x r hx hr;have hm:=(bO.o r (List.mem_of_getElem? hr)).1;have:=mN_ bn ba S ⟨a0,a1,a2,a3,a4,a5,aP,aD,aR,aT,aH,k,Z,a,b,c,d,P,L,F,Q,N,c0,c1,c2,c3,c4,c5,cP,cD,cR,cT,cH⟩ x r.stops W (aC.o.below (u_ h hb)) (hT.1.below (u_ h hb)) (by have:=hT.1.len;omega);rw [show qR i=r.stops.any fun s=> !inB s k by show(match M.routes[i]? with|some r=>_|none=>_)=_;rw [hr]];exact this))
      have aW:Hd (∀ w,Below y.heap.size y w ->Calls Tryz.prog 126 #[.slice aT Q cT,.func (.func 127) #[] #[.pointer (some ⟨ba,0,none⟩),.pointer (some ⟨bn,0,none⟩)]] w (rb_ (.bool (!M.trips.all (okT M))) w)):=fun w h=>by
       rw [<-de_];exact(nr_ 127 #[.pointer (some ⟨ba,0,none⟩),.pointer (some ⟨bn,0,none⟩)] (enters_of Tryz.func127 (by kernel_rfl) rfl) (fun p=> !okT M p) aT Q cT M.trips w (aA.o.rT.below h) (by omega) (fun W x hb _=>by have:=mO_ bn ba S ⟨a0,a1,a2,a3,a4,a5,aP,aD,aR,aT,aH,k,Z,a,b,c,d,P,L,F,Q,N,c0,c1,c2,c3,c4,c5,cP,cD,cR,cT,cH⟩ x W (aC.o.below (u_ h hb));unfold okT;rw [l3];exact this))
      have aX:Hd (∀ w,Below y.heap.size y w ->Calls Tryz.prog 128 #[.slice aH N cH,.func (.func 129) #[] #[.pointer (some ⟨S,0,none⟩),.pointer (some ⟨ba,0,none⟩),.pointer (some ⟨bn,0,none⟩)]] w (rb_ (.bool (!M.hazs.all (okH M))) w)):=fun w h=>by
       rw [<-de_];exact(nl_ 129 #[.pointer (some ⟨S,0,none⟩),.pointer (some ⟨ba,0,none⟩),.pointer (some ⟨bn,0,none⟩)] (enters_of Tryz.func129 (by kernel_rfl) rfl) (fun p=> !okH M p) aH N cH M.hazs w (aA.o.rH.below h) (by omega) (fun W x hb _=>by have:=mP_ bn ba S ⟨a0,a1,a2,a3,a4,a5,aP,aD,aR,aT,aH,k,Z,a,b,c,d,P,L,F,Q,N,c0,c1,c2,c3,c4,c5,cP,cD,cR,cT,cH⟩ x W (aC.o.below (u_ h hb));unfold okH;rw [l0,l1];exact this))
      obtain⟨s0,s1,s2,s3,s4,s5,s6,s7,s8,s9,bP,bQ⟩:=c_12 bK.o;clear aF U T aN aO aB aJ;clear aY;clear qR;obtain⟨v0,v1,v2,v3,v4,hv⟩: ∃ v0 v1 v2 v3 v4,M.paths.all (okP M)=v0/\M.doors.all (okD M)=v1/\M.routes.all (okR M)=v2/\M.trips.all (okT M)=v3/\M.hazs.all (okH M)=v4:=⟨_,_,_,_,_,rfl,rfl,rfl,rfl,rfl⟩
      obtain⟨bA,bB,bC,bD,bE⟩:=hv;rw [bA] at aS R;rw [bB] at aU R;rw [bC] at aV R;rw [bD] at aW R;rw [bE] at aX R;rw [R.o];clear bA bB bC bD bE R;go_enter Tryz.func93,Tryz.ntmps93;go_wp2_with fail;refine(aS.o y (Below.refl _ _)).mono ?_;rintro e x1 ⟨rfl,bF⟩;have X1:Hd (Below y.heap.size y x1):=bF;have bY:=bo_ X1.o s8;clear bF
      cases v0 with
      |false=>
       go_wp2
       clear z f D g aG G aI J;go_returns;exact⟨by simp,(b_ aE X1.o)⟩
      |true=>
       go_wp2_with fail;refine(aU.o x1 X1.o).mono ?_;rintro e x2 ⟨rfl,bG⟩;have X2:Hd (Below y.heap.size y x2):=b_ X1 bG;have bZ:=bo_ X2.o s9;clear bG
       cases v1 with
       |false=>
        go_wp2
        clear z f D g aG G aI J;go_returns;exact⟨by simp,(b_ aE X2.o)⟩
       |true=>
        go_wp2_with fail;refine(aV.o x2 X2.o).mono ?_;rintro e x3 ⟨rfl,bH⟩;have X3:Hd (Below y.heap.size y x3):=b_ X2 bH;have bS:=bo_ X3.o bP;clear bH
        cases v2 with
        |false=>
         go_wp2
         clear z f D g aG G aI J;go_returns;exact⟨by simp,(b_ aE X3.o)⟩
        |true=>
         go_wp2_with fail;refine(aW.o x3 X3.o).mono ?_;rintro e x4 ⟨rfl,bI⟩;have X4:Hd (Below y.heap.size y x4):=b_ X3 bI;have bT:=bo_ X4.o bQ;clear bI
         cases v3 with
         |false=>
          go_wp2
          clear z f D g aG G aI J;go_returns;exact⟨by simp,(b_ aE X4.o)⟩
         |true=>
          go_wp2_with fail;refine(aX.o x4 X4.o).mono ?_;rintro e x5 ⟨rfl,bJ⟩;have X5:Hd (Below y.heap.size y x5):=b_ X4 bJ;clear bJ
          go_wp2
          clear z f D g aG G aI J;go_returns;exact⟨by simp,(b_ aE X5.o)⟩
     ·have d4:((d:Int) !=(N:Int))=true:=by simp;omega
      have j:Hd (bS_ M=false):=by show _=_;rw [q.o,n.o];simp [e4]
      rw [j.o];clear j n q e4;go_enter Tryz.func93,Tryz.ntmps93
      go_wp2
      clear z f D g;go_returns;exact⟨rfl,Y.o⟩
    ·have d3:((c:Int) !=(Q:Int))=true:=by simp;omega
     have j:Hd (bS_ M=false):=by show _=_;rw [q.o,n.o];simp [e3]
     rw [j.o];clear j n q e3;go_enter Tryz.func93,Tryz.ntmps93
     go_wp2
     clear z f D g;go_returns;exact⟨rfl,Y.o⟩
   ·have d2:((b:Int) !=(F:Int))=true:=by simp;omega
    have j:Hd (bS_ M=false):=by show _=_;rw [q.o,n.o];simp [e2]
    rw [j.o];clear j n q e2;go_enter Tryz.func93,Tryz.ntmps93
    go_wp2
    clear z f D g;go_returns;exact⟨rfl,Y.o⟩
  ·have d1:((a:Int) !=(L:Int))=true:=by simp;omega
   have j:Hd (bS_ M=false):=by show _=_;rw [q.o,n.o];simp [e1]
   rw [j.o];clear j n q e1;go_enter Tryz.func93,Tryz.ntmps93
   go_wp2
   clear z f D g;go_returns;exact⟨rfl,Y.o⟩
 ·have d0:((Z:Int) !=(P:Int))=true:=by simp;omega
  have j:Hd (bS_ M=false):=by show _=_;rw [q.o,n.o];simp [e0]
  rw [j.o];clear j n q e0;go_enter Tryz.func93,Tryz.ntmps93
  go_wp2
  clear z f D g;go_returns;exact⟨rfl,Y.o⟩
theorem B.Bx.low {w w':World} {b n:Nat} {t:TypeId} {vs:List Value} (h:Bx w b t vs) (k:Below n w w') (hb:b<n):Bx w' b t vs:=(k.block b hb).trans h
structure TS (M:ab_) (wn:World) (bo:Nat) (w:World) (vS vP vD vR vT vH:Value) (kP kD kR kT kH:Nat) (LR:List REl):Prop where
 bx:Bx w bo 136 [.int .i64 M.hz,vS,vP,vD,vR,vT,vH]
 ge:wn.heap.size<=bo
 oS:w.ownsRow wn.heap.size 9 1 vS M.stops.length (M.stops.flatMap strE)
 oP:w.ownsRow wn.heap.size 171 4 vP kP ((aI_ (bO_ M) kP).flatMap aR_)
 oD:w.ownsRow wn.heap.size 173 7 vD kD ((aI_ (bN_ M) kD).flatMap aQ_)
 oR:w.ownsRow wn.heap.size 177 4 vR kR (LR.flatMap relE)
 oT:w.ownsRow wn.heap.size 179 5 vT kT ((aI_ (bP_ M) kT).flatMap aS_)
 oH:w.ownsRow wn.heap.size 181 5 vH kH ((aI_ (bv_ M) kH).flatMap a2_)
 tR:cS_ w wn.heap.size M LR kR
 bel:Below wn.heap.size wn w
section
variable {M:ab_} {wn w w':World} {bo:Nat} {vS vP vD vR vT vH:Value} {kP kD kR kT kH:Nat} {LR:List REl}
theorem cS_.below {w w':World} {base:Nat} {W:ab_} {L:List REl} {i:Nat} (h:cS_ w base W L i) (k:Below w.heap.size w w'):cS_ w' base W L i:=h.up fun _ _ _ _ _ _ _ _ h=>aa_ h k
theorem TS.below (h:TS M wn bo w vS vP vD vR vT vH kP kD kR kT kH LR) (k:Below w.heap.size w w'):TS M wn bo w' vS vP vD vR vT vH kP kD kR kT kH LR:=
 ⟨h.bx.below k,h.ge,aa_ h.oS k,aa_ h.oP k,aa_ h.oD k,aa_ h.oR k,aa_ h.oT k,aa_ h.oH k,h.tR.below k,u_ h.bel k⟩
theorem TS.stepP (h:TS M wn bo w vS vP vD vR vT vH kP kD kR kT kH LR) {x:bi_} (hx:bO_ M kP=some x) (hall: ∀ i,i<kP ->(bO_ M i).isSome) (hm:kP+1<=1099511627776):
 ∃ W1 W2 W3 g c,w.alloc (.cells (aR_ x).toArray 171)=W1/\W2.setCell ⟨bo,2,none⟩ (.slice (some ⟨g,0,none⟩) (kP+1) c)=W3/\Bx W2 bo 136 [.int .i64 M.hz,vS,vP,vD,vR,vT,vH]/\(Builtin.append_ #[130,130] 130 #[vP,.slice (some ⟨w.heap.size,0,none⟩) 1 1]).run Tryz.prog W1= .ok (.slice (some ⟨g,0,none⟩) (kP+1) c) W2/\
   TS M wn bo W3 vS (.slice (some ⟨g,0,none⟩) (kP+1) c) vD vR vT vH (kP+1) kD kR kT kH LR:=by
 have N:=bC_ hx;have y:=aw_ hall kP (Nat.le_refl _);obtain⟨W1,W2,W3,va,vb,Y,Z,a,R,S,b,_,j,D,P,g,c,J⟩:=hp_ (enc:=aR_) Tryz.underlying130 gg_ rfl (by decide) dk_ ho_ (by decide) (f:=2) (T:=136) x (by decide) h.bx h.oP y hm h.bel.size h.ge;subst J Z;have p: ∀ {e:TypeId} {z n:Nat} {v:Value} {Q:List Value},e≠171 ->136≠e ->w.ownsRow wn.heap.size e z v n Q ->W3.ownsRow wn.heap.size e z v n Q:=fun G X F=>(j _ _ _ _ _ _ X (fun q U=>b7_ h.oP F G U) F).1;rw [<-N] at P;exact⟨W1,W2,W3,g,c,Y,a,R,D,⟨S,h.ge,p (by decide) (by decide) h.oS,P,p (by decide) (by decide) h.oD,p (by decide) (by decide) h.oR,p (by decide) (by decide) h.oT,p (by decide) (by decide) h.oH,h.tR.up fun _ _ _ _ _ _ G L F=>by subst L;exact p (by rcases G with rfl|rfl<;>decide) (by rcases G with rfl|rfl<;>decide) F,h.bel.trans b⟩⟩
theorem TS.stepD (h:TS M wn bo w vS vP vD vR vT vH kP kD kR kT kH LR) {x:bh_} (hx:bN_ M kD=some x) (hall: ∀ i,i<kD ->(bN_ M i).isSome) (hm:kD+1<=1099511627776):
 ∃ W1 W2 W3 g c,w.alloc (.cells (aQ_ x).toArray 173)=W1/\W2.setCell ⟨bo,3,none⟩ (.slice (some ⟨g,0,none⟩) (kD+1) c)=W3/\Bx W2 bo 136 [.int .i64 M.hz,vS,vP,vD,vR,vT,vH]/\(Builtin.append_ #[131,131] 131 #[vD,.slice (some ⟨w.heap.size,0,none⟩) 1 1]).run Tryz.prog W1= .ok (.slice (some ⟨g,0,none⟩) (kD+1) c) W2/\
   TS M wn bo W3 vS vP (.slice (some ⟨g,0,none⟩) (kD+1) c) vR vT vH kP (kD+1) kR kT kH LR:=by
 have N:=bC_ hx;have y:=aw_ hall kD (Nat.le_refl _);obtain⟨W1,W2,W3,va,vb,Y,Z,a,R,S,b,_,j,D,P,g,c,J⟩:=hp_ (enc:=aQ_) Tryz.underlying131 gf_ rfl (by decide) di_ hg_ (by decide) (f:=3) (T:=136) x (by decide) h.bx h.oD y hm h.bel.size h.ge;subst J Z;have p: ∀ {e:TypeId} {z n:Nat} {v:Value} {Q:List Value},e≠173 ->136≠e ->w.ownsRow wn.heap.size e z v n Q ->W3.ownsRow wn.heap.size e z v n Q:=fun G X F=>(j _ _ _ _ _ _ X (fun q U=>b7_ h.oD F G U) F).1;rw [<-N] at P;exact⟨W1,W2,W3,g,c,Y,a,R,D,⟨S,h.ge,p (by decide) (by decide) h.oS,p (by decide) (by decide) h.oP,P,p (by decide) (by decide) h.oR,p (by decide) (by decide) h.oT,p (by decide) (by decide) h.oH,h.tR.up fun _ _ _ _ _ _ G L F=>by subst L;exact p (by rcases G with rfl|rfl<;>decide) (by rcases G with rfl|rfl<;>decide) F,h.bel.trans b⟩⟩
theorem TS.stepR (h:TS M wn bo w vS vP vD vR vT vH kP kD kR kT kH LR) (x:REl) (r:bn_) (hx:bJ_ M kR=some r) (hxT:RowT w wn.heap.size x r) (hm:kR+1<=1099511627776):
 ∃ W1 W2 W3 g c,w.alloc (.cells (relE x).toArray 177)=W1/\W2.setCell ⟨bo,4,none⟩ (.slice (some ⟨g,0,none⟩) (kR+1) c)=W3/\Bx W2 bo 136 [.int .i64 M.hz,vS,vP,vD,vR,vT,vH]/\(Builtin.append_ #[132,132] 132 #[vR,.slice (some ⟨w.heap.size,0,none⟩) 1 1]).run Tryz.prog W1= .ok (.slice (some ⟨g,0,none⟩) (kR+1) c) W2/\
   TS M wn bo W3 vS vP vD (.slice (some ⟨g,0,none⟩) (kR+1) c) vT vH kP kD (kR+1) kT kH (LR++[x]):=by
 obtain⟨W1,W2,W3,va,vb,S,U,X,N,P,Y,_,j,y,Z,g,c,G⟩:=hp_ (enc:=relE) Tryz.underlying132 fI_ rfl (by decide) dY_ jf_ (by decide) (f:=4) (T:=136) x (by decide) h.bx h.oR h.tR.len hm h.bel.size h.ge;subst G U;have p: ∀ {e:TypeId} {z n:Nat} {v:Value} {L:List Value},e≠177 ->136≠e ->w.ownsRow wn.heap.size e z v n L ->W3.ownsRow wn.heap.size e z v n L:=fun F R D=>(j _ _ _ _ _ _ R (fun q Q=>b7_ h.oR D F Q) D).1;exact⟨W1,W2,W3,g,c,S,X,N,y,⟨P,h.ge,p (by decide) (by decide) h.oS,p (by decide) (by decide) h.oP,p (by decide) (by decide) h.oD,Z,p (by decide) (by decide) h.oT,p (by decide) (by decide) h.oH,(cS_.snoc h.tR hx hxT).up fun _ _ _ _ _ _ F J D=>by subst J;exact p (by rcases F with rfl|rfl<;>decide) (by rcases F with rfl|rfl<;>decide) D,h.bel.trans Y⟩⟩
theorem TS.stepT (h:TS M wn bo w vS vP vD vR vT vH kP kD kR kT kH LR) {x:bj_} (hx:bP_ M kT=some x) (hall: ∀ i,i<kT ->(bP_ M i).isSome) (hm:kT+1<=1099511627776):
 ∃ W1 W2 W3 g c,w.alloc (.cells (aS_ x).toArray 179)=W1/\W2.setCell ⟨bo,5,none⟩ (.slice (some ⟨g,0,none⟩) (kT+1) c)=W3/\Bx W2 bo 136 [.int .i64 M.hz,vS,vP,vD,vR,vT,vH]/\(Builtin.append_ #[133,133] 133 #[vT,.slice (some ⟨w.heap.size,0,none⟩) 1 1]).run Tryz.prog W1= .ok (.slice (some ⟨g,0,none⟩) (kT+1) c) W2/\
   TS M wn bo W3 vS vP vD vR (.slice (some ⟨g,0,none⟩) (kT+1) c) vH kP kD kR (kT+1) kH LR:=by
 have N:=bC_ hx;have y:=aw_ hall kT (Nat.le_refl _);obtain⟨W1,W2,W3,va,vb,Y,Z,a,R,S,b,_,j,D,P,g,c,J⟩:=hp_ (enc:=aS_) Tryz.underlying133 gh_ rfl (by decide) dl_ hq_ (by decide) (f:=5) (T:=136) x (by decide) h.bx h.oT y hm h.bel.size h.ge;subst J Z;have p: ∀ {e:TypeId} {z n:Nat} {v:Value} {Q:List Value},e≠179 ->136≠e ->w.ownsRow wn.heap.size e z v n Q ->W3.ownsRow wn.heap.size e z v n Q:=fun G X F=>(j _ _ _ _ _ _ X (fun q U=>b7_ h.oT F G U) F).1;rw [<-N] at P;exact⟨W1,W2,W3,g,c,Y,a,R,D,⟨S,h.ge,p (by decide) (by decide) h.oS,p (by decide) (by decide) h.oP,p (by decide) (by decide) h.oD,p (by decide) (by decide) h.oR,P,p (by decide) (by decide) h.oH,h.tR.up fun _ _ _ _ _ _ G L F=>by subst L;exact p (by rcases G with rfl|rfl<;>decide) (by rcases G with rfl|rfl<;>decide) F,h.bel.trans b⟩⟩
theorem TS.stepH (h:TS M wn bo w vS vP vD vR vT vH kP kD kR kT kH LR) {x:bs_} (hx:bv_ M kH=some x) (hall: ∀ i,i<kH ->(bv_ M i).isSome) (hm:kH+1<=1099511627776):
 ∃ W1 W2 W3 g c,w.alloc (.cells (a2_ x).toArray 181)=W1/\W2.setCell ⟨bo,6,none⟩ (.slice (some ⟨g,0,none⟩) (kH+1) c)=W3/\Bx W2 bo 136 [.int .i64 M.hz,vS,vP,vD,vR,vT,vH]/\(Builtin.append_ #[134,134] 134 #[vH,.slice (some ⟨w.heap.size,0,none⟩) 1 1]).run Tryz.prog W1= .ok (.slice (some ⟨g,0,none⟩) (kH+1) c) W2/\
   TS M wn bo W3 vS vP vD vR vT (.slice (some ⟨g,0,none⟩) (kH+1) c) kP kD kR kT (kH+1) LR:=by
 have N:=bC_ hx;have y:=aw_ hall kH (Nat.le_refl _);obtain⟨W1,W2,W3,va,vb,Y,Z,a,R,S,b,_,j,D,P,g,c,J⟩:=hp_ (enc:=a2_) Tryz.underlying134 fc_ rfl (by decide) da_ fT_ (by decide) (f:=6) (T:=136) x (by decide) h.bx h.oH y hm h.bel.size h.ge;subst J Z;have p: ∀ {e:TypeId} {z n:Nat} {v:Value} {Q:List Value},e≠181 ->136≠e ->w.ownsRow wn.heap.size e z v n Q ->W3.ownsRow wn.heap.size e z v n Q:=fun G X F=>(j _ _ _ _ _ _ X (fun q U=>b7_ h.oH F G U) F).1;rw [<-N] at P;exact⟨W1,W2,W3,g,c,Y,a,R,D,⟨S,h.ge,p (by decide) (by decide) h.oS,p (by decide) (by decide) h.oP,p (by decide) (by decide) h.oD,p (by decide) (by decide) h.oR,p (by decide) (by decide) h.oT,P,h.tR.up fun _ _ _ _ _ _ G L F=>by subst L;exact p (by rcases G with rfl|rfl<;>decide) (by rcases G with rfl|rfl<;>decide) F,h.bel.trans b⟩⟩
end
