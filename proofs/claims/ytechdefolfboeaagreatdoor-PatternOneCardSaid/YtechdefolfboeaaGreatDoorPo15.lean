/- Merged. -/
import Derived.Laws.EntriesVeiled
import Derived.Test.YtechdefolfboeaaGreatDoorPo14
set_option linter.unusedVariables false
set_option linter.unusedSimpArgs false
set_option maxRecDepth 100000
set_option maxHeartbeats 2000000
namespace Go.Proofs.YtechdefolfboeaaGreatDoor
open Go.RowKit B K
theorem any_range {α:Type} {l:List α} {p:α→Bool} {q:Nat→Bool} {n:Nat} (hn:l.length=n) (h: ∀ i x,l[i]?=some x→q i=p x):(List.range n).any q=l.any p:=by
 rw [Bool.eq_iff_iff];simp only [List.any_eq_true,List.mem_range];constructor
 ·rintro⟨i,hi,hq⟩;have hx:=List.getElem?_eq_getElem (l:=l) (i:=i) (by omega);exact⟨_,List.mem_of_getElem? hx,by rw [←h i _ hx];exact hq⟩
 ·rintro⟨x,hx,hp⟩;obtain⟨i,hi⟩:=List.getElem?_of_mem hx;exact⟨i,by have:=(List.getElem?_eq_some_iff.1 hi).1;omega,by rw [h i x hi];exact hp⟩
theorem any_not {α:Type} (l:List α) (p:α→Bool):(l.any fun x=> !p x)= !l.all p:=by
 induction l with
 |nil=>rfl
 |cons x l ih=>rw [List.any_cons,List.all_cons,ih];cases p x<;>rfl
theorem pwhole_any (M:WorldP) (V:WV) (we:World) (hr:RW we M V) (hf:Few M):Calls Tryz.prog 93 #[wVal M V] we fun e w'=>e= .returned (.bool (wholeB M))∧Below we.heap.size we w':=by
 obtain⟨a0,a1,a2,a3,a4,a5,aP,aD,aR,aT,aH,n0,n1,n2,n3,n4,n5,nP,nD,nR,nT,nH,c0,c1,c2,c3,c4,c5,cP,cD,cR,cT,cH⟩:=V;have l0:M.stops.length=n0:=hr.r0.len;have l1:M.nPaths.length=n1:=hr.r1.len;have l3:M.nRoutes.length=n3:=hr.r3.len
 have hL:lensB M= !(decide (n1≠nP)||(decide (n2≠nD)||(decide (n3≠nR)||(decide (n4≠nT)||decide (n5≠nH))))):=by
  have h2:M.nDoors.length=n2:=hr.r2.len;have h4:M.nTrips.length=n4:=hr.r4.len;have h5:M.nHazs.length=n5:=hr.r5.len;have hP:M.paths.length=nP:=hr.rP.len;have hD:M.doors.length=nD:=hr.rD.len;have hR:M.routes.length=nR:=hr.rR.len;have hT:M.trips.length=nT:=hr.rT.len;have hH:M.hazs.length=nH:=hr.rH.len;unfold lensB;rw [l1,h2,l3,h4,h5,hP,hD,hR,hT,hH];rw [Bool.eq_iff_iff];simp only [Bool.and_eq_true,decide_eq_true_eq,Bool.not_eq_true',Bool.or_eq_false_iff,decide_eq_false_iff_not,Decidable.not_not]
 have mP:nP≤100000:=by rw [←show M.paths.length=nP from hr.rP.len];exact hf.sP
 have mD:nD≤100000:=by rw [←show M.doors.length=nD from hr.rD.len];exact hf.sD
 have mR:nR≤100000:=by rw [←show M.routes.length=nR from hr.rR.len];exact hf.sR
 have mT:nT≤100000:=by rw [←show M.trips.length=nT from hr.rT.len];exact hf.sT
 have mH:nH≤100000:=by rw [←show M.hazs.length=nH from hr.rH.len];exact hf.sH
 have lR:M.routes.length=nR:=hr.rR.len;have hsr:=H_ hf.sr;simp only [wVal];obtain⟨w1,b1,hw1,hbE1,hb1,hup,B1,hge1⟩:=enter1 we 31 [.int .i64 M.hz,.slice a0 n0 c0,.slice a1 n1 c1,.slice a2 n2 c2,.slice a3 n3 c3,.slice a4 n4 c4,.slice a5 n5 c5,.slice aP nP cP,.slice aD nD cD,.slice aR nR cR,.slice aT nT cT,.slice aH nH cH];have hR1:=H_ (hr.below hup.out);obtain⟨p0,p1,p2,p3,p4,p5,p6,p7,p8,p9,p10,p11⟩:=c_12 B1;have B1H:=H_ B1;clear hr hf B1 hb1;obtain⟨wn,bn,hwn,hbnE,hbwn,Bwn⟩:=box1 w1 24 [.slice a0 n0 c0,.slice a1 n1 c1,.slice a2 n2 c2,.slice a3 n3 c3,.slice a4 n4 c4,.slice a5 n5 c5];have hbN:=h_ hup hbwn;have hRn:=H_ (hR1.out.below hbwn);obtain⟨z0,z1,z2,z3,z4,z5⟩:=c_6 Bwn;have B1n:=H_ (B1H.out.below hbwn);obtain⟨r0,r1,r2,r3,r4,r5,r6,r7,r8,r9,r10,r11⟩:=c_12 B1n.out;have BwnH:=H_ Bwn;clear Bwn hbwn B1H;have hLH:=H_ hL;clear hL
 have hW0:Hid (wholeB M=(((((lensB M&&M.paths.all (okP M))&&M.doors.all (okD M))&&M.routes.all (okR M))&&M.trips.all (okT M))&&M.hazs.all (okH M))):=rfl;by_cases e0:n1=nP
 ·have d0:((n1:Int) !=(nP:Int))=false:=by simp [e0]
  replace e0:=H_ e0;by_cases e1:n2=nD
  ·have d1:((n2:Int) !=(nD:Int))=false:=by simp [e1]
   replace e1:=H_ e1;by_cases e2:n3=nR
   ·have d2:((n3:Int) !=(nR:Int))=false:=by simp [e2]
    replace e2:=H_ e2;by_cases e3:n4=nT
    ·have d3:((n4:Int) !=(nT:Int))=false:=by simp [e3]
     replace e3:=H_ e3;by_cases e4:n5=nH
     ·have d4:((n5:Int) !=(nH:Int))=false:=by simp [e4]
      replace e4:=H_ e4;have hl:Hid (lensB M=true):=by show _=_;rw [hLH.out];simp [e0.out,e1.out,e2.out,e3.out,e4.out]
      have hW1:Hid (wholeB M=((((M.paths.all (okP M)&&M.doors.all (okD M))&&M.routes.all (okR M))&&M.trips.all (okT M))&&M.hazs.all (okH M))):=by show _=_;rw [hW0.out,hl.out];simp
      clear hl hW0 hLH e0 e1 e2 e3 e4;obtain⟨wa,ba,hwa,hbaE,hbwa,Bwa⟩:=box1 wn 154 [.func (.func 117) #[] #[]];obtain⟨wb,bb,hwb,hbbE,hbwb,Bwb⟩:=box1 wa 123 [.func (.func 118) #[] #[.pointer (some ⟨ba,0,none⟩),.pointer (some ⟨bn,0,none⟩)]];have hbAB:=u_ hbwa hbwb
      have hWC:Hid (WC wb bn ba bb ⟨a0,a1,a2,a3,a4,a5,aP,aD,aR,aT,aH,n0,n1,n2,n3,n4,n5,nP,nD,nR,nT,nH,c0,c1,c2,c3,c4,c5,cP,cD,cR,cT,cH⟩):=by
       have h1:=(BwnH.out.below hbwa).below hbwb;exact⟨(Bwa.below hbwb).cell 0 rfl,Bwb.cell 0 rfl,h1.cell 0 rfl,h1.cell 1 rfl,h1.cell 3 rfl⟩
      have hRb:=H_ (hRn.out.below hbAB);have B1b:=H_ (B1n.out.below hbAB);have hbB:=h_ hbN hbAB;obtain⟨LR,hRd,hRw⟩:=hRb.out.rR.rows;replace hRd:=H_ hRd;replace hRw:=H_ hRw
      let qR:Nat→Bool:=fun i=>match M.routes[i]? with|some r=>r.stops.any fun s=> !inB s n0|none=>false
      have hqR:Hid ((List.range nR).any qR= !M.routes.all (okR M)):=by
       show _=_;rw [←any_not];refine any_range lR fun i x hx=>?_;show(match M.routes[i]? with|some r=>r.stops.any fun s=> !inB s n0|none=>false)=_;simp only [hx];unfold okR;rw [l0,any_not]
      have wS: ∀ v,wb.cell? ⟨b1,v,none⟩=wb.cell? ⟨b1,v,none⟩:=fun _=>rfl;clear wS
      have cF0:Hid (∀ w,Below wb.heap.size wb w→Calls Tryz.prog 119 #[.slice aP nP cP,.func (.func 120) #[] #[.pointer (some ⟨bb,0,none⟩)]] w fun e w'=>e= .returned (.bool (!M.paths.all (okP M)))∧Below w.heap.size w w'):=fun w h=>by
       rw [←any_not];exact(ctfP_any 120 #[.pointer (some ⟨bb,0,none⟩)] (enters_of Tryz.func120 (by kernel_rfl) rfl) (fun p=> !okP M p) aP nP cP M.paths w (hRb.out.rP.below h) (by omega) (fun W x hb _=>by have:=podd3_any bn ba bb ⟨a0,a1,a2,a3,a4,a5,aP,aD,aR,aT,aH,n0,n1,n2,n3,n4,n5,nP,nD,nR,nT,nH,c0,c1,c2,c3,c4,c5,cP,cD,cR,cT,cH⟩ x W (hWC.out.below (u_ h hb));unfold okP;rw [l0];exact this))
      have cF1:Hid (∀ w,Below wb.heap.size wb w→Calls Tryz.prog 121 #[.slice aD nD cD,.func (.func 122) #[] #[.pointer (some ⟨bb,0,none⟩)]] w fun e w'=>e= .returned (.bool (!M.doors.all (okD M)))∧Below w.heap.size w w'):=fun w h=>by
       rw [←any_not];exact(ctfD_any 122 #[.pointer (some ⟨bb,0,none⟩)] (enters_of Tryz.func122 (by kernel_rfl) rfl) (fun p=> !okD M p) aD nD cD M.doors w (hRb.out.rD.below h) (by omega) (fun W x hb _=>by have:=podd4_any bn ba bb ⟨a0,a1,a2,a3,a4,a5,aP,aD,aR,aT,aH,n0,n1,n2,n3,n4,n5,nP,nD,nR,nT,nH,c0,c1,c2,c3,c4,c5,cP,cD,cR,cT,cH⟩ x W (hWC.out.below (u_ h hb));unfold okD;rw [l0];exact this))
      have cF2:Hid (∀ w,Below wb.heap.size wb w→Calls Tryz.prog 123 #[.slice aR nR cR,.func (.func 124) #[] #[.pointer (some ⟨bb,0,none⟩)]] w fun e w'=>e= .returned (.bool (!M.routes.all (okR M)))∧Below w.heap.size w w'):=fun w h=>by
       rw [←hqR.out]
       exact(ctfR_any 124 #[.pointer (some ⟨bb,0,none⟩)] (enters_of Tryz.func124 (by kernel_rfl) rfl) qR aR nR cR LR w (hRd.out.below h) (by omega) (fun W i x hb hx=>by
        obtain⟨r,hr⟩: ∃ r,M.routes[i]?=some r:=⟨_,List.getElem?_eq_getElem (by have h1:=(List.getElem?_eq_some_iff.1 hx).1;have h2:=hRw.out.len;omega)⟩
        have hT:=hRw.out.at_ i x r hx hr;have hm:=(hsr.out r (List.mem_of_getElem? hr)).1;have:=podd5_any bn ba bb ⟨a0,a1,a2,a3,a4,a5,aP,aD,aR,aT,aH,n0,n1,n2,n3,n4,n5,nP,nD,nR,nT,nH,c0,c1,c2,c3,c4,c5,cP,cD,cR,cT,cH⟩ x r.stops W (hWC.out.below (u_ h hb)) (hT.1.below (u_ h hb)) (by have:=hT.1.len;omega);rw [show qR i=r.stops.any fun s=> !inB s n0 by show(match M.routes[i]? with|some r=>_|none=>_)=_;rw [hr]];exact this))
      have cF3:Hid (∀ w,Below wb.heap.size wb w→Calls Tryz.prog 126 #[.slice aT nT cT,.func (.func 127) #[] #[.pointer (some ⟨ba,0,none⟩),.pointer (some ⟨bn,0,none⟩)]] w fun e w'=>e= .returned (.bool (!M.trips.all (okT M)))∧Below w.heap.size w w'):=fun w h=>by
       rw [←any_not];exact(ctfT_any 127 #[.pointer (some ⟨ba,0,none⟩),.pointer (some ⟨bn,0,none⟩)] (enters_of Tryz.func127 (by kernel_rfl) rfl) (fun p=> !okT M p) aT nT cT M.trips w (hRb.out.rT.below h) (by omega) (fun W x hb _=>by have:=podd6_any bn ba bb ⟨a0,a1,a2,a3,a4,a5,aP,aD,aR,aT,aH,n0,n1,n2,n3,n4,n5,nP,nD,nR,nT,nH,c0,c1,c2,c3,c4,c5,cP,cD,cR,cT,cH⟩ x W (hWC.out.below (u_ h hb));unfold okT;rw [l3];exact this))
      have cF4:Hid (∀ w,Below wb.heap.size wb w→Calls Tryz.prog 128 #[.slice aH nH cH,.func (.func 129) #[] #[.pointer (some ⟨bb,0,none⟩),.pointer (some ⟨ba,0,none⟩),.pointer (some ⟨bn,0,none⟩)]] w fun e w'=>e= .returned (.bool (!M.hazs.all (okH M)))∧Below w.heap.size w w'):=fun w h=>by
       rw [←any_not];exact(ctfH_any 129 #[.pointer (some ⟨bb,0,none⟩),.pointer (some ⟨ba,0,none⟩),.pointer (some ⟨bn,0,none⟩)] (enters_of Tryz.func129 (by kernel_rfl) rfl) (fun p=> !okH M p) aH nH cH M.hazs w (hRb.out.rH.below h) (by omega) (fun W x hb _=>by have:=podd7_any bn ba bb ⟨a0,a1,a2,a3,a4,a5,aP,aD,aR,aT,aH,n0,n1,n2,n3,n4,n5,nP,nD,nR,nT,nH,c0,c1,c2,c3,c4,c5,cP,cD,cR,cT,cH⟩ x W (hWC.out.below (u_ h hb));unfold okH;rw [l0,l1];exact this))
      obtain⟨s0,s1,s2,s3,s4,s5,s6,s7,s8,s9,s10,s11⟩:=c_12 B1b.out;clear hbwa hbwb hbAB Bwa Bwb hRw hRd;clear hqR;clear qR;obtain⟨v0,v1,v2,v3,v4,hv⟩: ∃ v0 v1 v2 v3 v4,M.paths.all (okP M)=v0∧M.doors.all (okD M)=v1∧M.routes.all (okR M)=v2∧M.trips.all (okT M)=v3∧M.hazs.all (okH M)=v4:=⟨_,_,_,_,_,rfl,rfl,rfl,rfl,rfl⟩
      obtain⟨hv0,hv1,hv2,hv3,hv4⟩:=hv;rw [hv0] at cF0 hW1;rw [hv1] at cF1 hW1;rw [hv2] at cF2 hW1;rw [hv3] at cF3 hW1;rw [hv4] at cF4 hW1;rw [hW1.out];clear hv0 hv1 hv2 hv3 hv4 hW1;go_enter Tryz.func93,Tryz.ntmps93;go_wp2_with fail;refine(cF0.out wb (Below.refl _ _)).mono ?_;rintro e x1 ⟨rfl,hx1⟩;have X1:Hid (Below wb.heap.size wb x1):=hx1;have s8':=up_cell X1.out s8;clear hx1
      cases v0 with
      |false=>
       go_wp2_with fail;clear hw1 hbE1 hwn hbnE hwa hbaE hwb hbbE;go_returns;exact⟨by simp,(b_ hbB X1.out)⟩
      |true=>
       go_wp2_with fail;refine(cF1.out x1 X1.out).mono ?_;rintro e x2 ⟨rfl,hx2⟩;have X2:Hid (Below wb.heap.size wb x2):=b_ X1 hx2;have s9':=up_cell X2.out s9;clear hx2
       cases v1 with
       |false=>
        go_wp2_with fail;clear hw1 hbE1 hwn hbnE hwa hbaE hwb hbbE;go_returns;exact⟨by simp,(b_ hbB X2.out)⟩
       |true=>
        go_wp2_with fail;refine(cF2.out x2 X2.out).mono ?_;rintro e x3 ⟨rfl,hx3⟩;have X3:Hid (Below wb.heap.size wb x3):=b_ X2 hx3;have s10':=up_cell X3.out s10;clear hx3
        cases v2 with
        |false=>
         go_wp2_with fail;clear hw1 hbE1 hwn hbnE hwa hbaE hwb hbbE;go_returns;exact⟨by simp,(b_ hbB X3.out)⟩
        |true=>
         go_wp2_with fail;refine(cF3.out x3 X3.out).mono ?_;rintro e x4 ⟨rfl,hx4⟩;have X4:Hid (Below wb.heap.size wb x4):=b_ X3 hx4;have s11':=up_cell X4.out s11;clear hx4
         cases v3 with
         |false=>
          go_wp2_with fail;clear hw1 hbE1 hwn hbnE hwa hbaE hwb hbbE;go_returns;exact⟨by simp,(b_ hbB X4.out)⟩
         |true=>
          go_wp2_with fail;refine(cF4.out x4 X4.out).mono ?_;rintro e x5 ⟨rfl,hx5⟩;have X5:Hid (Below wb.heap.size wb x5):=b_ X4 hx5;clear hx5;go_wp2_with fail;clear hw1 hbE1 hwn hbnE hwa hbaE hwb hbbE;go_returns;exact⟨by simp,(b_ hbB X5.out)⟩
     ·have d4:((n5:Int) !=(nH:Int))=true:=by simp;omega
      have hno:Hid (wholeB M=false):=by show _=_;rw [hW0.out,hLH.out];simp [e4]
      rw [hno.out];clear hno hLH hW0 e4;go_enter Tryz.func93,Tryz.ntmps93;go_wp2_with fail;clear hw1 hbE1 hwn hbnE;go_returns;exact⟨rfl,hbN.out⟩
    ·have d3:((n4:Int) !=(nT:Int))=true:=by simp;omega
     have hno:Hid (wholeB M=false):=by show _=_;rw [hW0.out,hLH.out];simp [e3]
     rw [hno.out];clear hno hLH hW0 e3;go_enter Tryz.func93,Tryz.ntmps93;go_wp2_with fail;clear hw1 hbE1 hwn hbnE;go_returns;exact⟨rfl,hbN.out⟩
   ·have d2:((n3:Int) !=(nR:Int))=true:=by simp;omega
    have hno:Hid (wholeB M=false):=by show _=_;rw [hW0.out,hLH.out];simp [e2]
    rw [hno.out];clear hno hLH hW0 e2;go_enter Tryz.func93,Tryz.ntmps93;go_wp2_with fail;clear hw1 hbE1 hwn hbnE;go_returns;exact⟨rfl,hbN.out⟩
  ·have d1:((n2:Int) !=(nD:Int))=true:=by simp;omega
   have hno:Hid (wholeB M=false):=by show _=_;rw [hW0.out,hLH.out];simp [e1]
   rw [hno.out];clear hno hLH hW0 e1;go_enter Tryz.func93,Tryz.ntmps93;go_wp2_with fail;clear hw1 hbE1 hwn hbnE;go_returns;exact⟨rfl,hbN.out⟩
 ·have d0:((n1:Int) !=(nP:Int))=true:=by simp;omega
  have hno:Hid (wholeB M=false):=by show _=_;rw [hW0.out,hLH.out];simp [e0]
  rw [hno.out];clear hno hLH hW0 e0;go_enter Tryz.func93,Tryz.ntmps93;go_wp2_with fail;clear hw1 hbE1 hwn hbnE;go_returns;exact⟨rfl,hbN.out⟩
theorem B.Bx.low {w w':World} {b n:Nat} {t:TypeId} {vs:List Value} (h:Bx w b t vs) (k:Below n w w') (hb:b<n):Bx w' b t vs:=(k.block b hb).trans h
structure TS (M:WorldP) (wn:World) (bo:Nat) (w:World) (vS vP vD vR vT vH:Value) (kP kD kR kT kH:Nat) (LR:List REl):Prop where
 bx:Bx w bo 136 [.int .i64 M.hz,vS,vP,vD,vR,vT,vH]
 ge:wn.heap.size≤bo
 oS:w.ownsRow wn.heap.size 9 1 vS M.stops.length (M.stops.flatMap strE)
 oP:w.ownsRow wn.heap.size 171 4 vP kP ((upTo2 (toldP M) kP).flatMap spathE)
 oD:w.ownsRow wn.heap.size 173 7 vD kD ((upTo2 (toldD M) kD).flatMap sdoorE)
 oR:w.ownsRow wn.heap.size 177 4 vR kR (LR.flatMap relE)
 oT:w.ownsRow wn.heap.size 179 5 vT kT ((upTo2 (toldT M) kT).flatMap stripE)
 oH:w.ownsRow wn.heap.size 181 5 vH kH ((upTo2 (toldH M) kH).flatMap shazE)
 tR:RowsT w wn.heap.size M LR kR
 bel:Below wn.heap.size wn w
section
variable {M:WorldP} {wn w w':World} {bo:Nat} {vS vP vD vR vT vH:Value} {kP kD kR kT kH:Nat} {LR:List REl}
theorem RowsT.below {w w':World} {base:Nat} {W:WorldP} {L:List REl} {i:Nat} (h:RowsT w base W L i) (k:Below w.heap.size w w'):RowsT w' base W L i:=h.up fun _ _ _ _ _ _ _ _ h=>own_below h k
theorem TS.below (h:TS M wn bo w vS vP vD vR vT vH kP kD kR kT kH LR) (k:Below w.heap.size w w'):TS M wn bo w' vS vP vD vR vT vH kP kD kR kT kH LR:=
 ⟨h.bx.below k,h.ge,own_below h.oS k,own_below h.oP k,own_below h.oD k,own_below h.oR k,own_below h.oT k,own_below h.oH k,h.tR.below k,u_ h.bel k⟩
theorem TS.stepP (h:TS M wn bo w vS vP vD vR vT vH kP kD kR kT kH LR) {x:SPathP} (hx:toldP M kP=some x) (hall: ∀ i,i<kP→(toldP M i).isSome) (hm:kP+1≤1099511627776):
 ∃ W1 W2 W3 g c,w.alloc (.cells (spathE x).toArray 171)=W1∧W2.setCell ⟨bo,2,none⟩ (.slice (some ⟨g,0,none⟩) (kP+1) c)=W3∧Bx W2 bo 136 [.int .i64 M.hz,vS,vP,vD,vR,vT,vH]∧(Builtin.append_ #[130,130] 130 #[vP,.slice (some ⟨w.heap.size,0,none⟩) 1 1]).run Tryz.prog W1= .ok (.slice (some ⟨g,0,none⟩) (kP+1) c) W2∧
   TS M wn bo W3 vS (.slice (some ⟨g,0,none⟩) (kP+1) c) vD vR vT vH (kP+1) kD kR kT kH LR:=by
 have hsn:=upTo2_snoc hx;have hlen:=upTo2_len hall kP (Nat.le_refl _);obtain⟨W1,W2,W3,va,vb,k1,k2,k3,b2,b3,lA,_,keepA,runA,oA,g,c,hab⟩:=stepE (enc:=spathE) Tryz.underlying130 info_tSPath rfl (by decide) spathE_len spathE_one (by decide) (f:=2) (T:=136) x (by decide) h.bx h.oP hlen hm h.bel.size h.ge;subst hab k2;have kp: ∀ {e:TypeId} {z n:Nat} {v:Value} {xs:List Value},e≠171→136≠e→w.ownsRow wn.heap.size e z v n xs→W3.ownsRow wn.heap.size e z v n xs:=fun he ht h'=>(keepA _ _ _ _ _ _ ht (fun q hq=>own_ne h.oP h' he hq) h').1;rw [←hsn] at oA;exact⟨W1,W2,W3,g,c,k1,k3,b2,runA,⟨b3,h.ge,kp (by decide) (by decide) h.oS,oA,kp (by decide) (by decide) h.oD,kp (by decide) (by decide) h.oR,kp (by decide) (by decide) h.oT,kp (by decide) (by decide) h.oH,h.tR.up fun _ _ _ _ _ _ he hb' h'=>by subst hb';exact kp (by rcases he with rfl|rfl<;>decide) (by rcases he with rfl|rfl<;>decide) h',h.bel.trans lA⟩⟩
theorem TS.stepD (h:TS M wn bo w vS vP vD vR vT vH kP kD kR kT kH LR) {x:SDoorP} (hx:toldD M kD=some x) (hall: ∀ i,i<kD→(toldD M i).isSome) (hm:kD+1≤1099511627776):
 ∃ W1 W2 W3 g c,w.alloc (.cells (sdoorE x).toArray 173)=W1∧W2.setCell ⟨bo,3,none⟩ (.slice (some ⟨g,0,none⟩) (kD+1) c)=W3∧Bx W2 bo 136 [.int .i64 M.hz,vS,vP,vD,vR,vT,vH]∧(Builtin.append_ #[131,131] 131 #[vD,.slice (some ⟨w.heap.size,0,none⟩) 1 1]).run Tryz.prog W1= .ok (.slice (some ⟨g,0,none⟩) (kD+1) c) W2∧
   TS M wn bo W3 vS vP (.slice (some ⟨g,0,none⟩) (kD+1) c) vR vT vH kP (kD+1) kR kT kH LR:=by
 have hsn:=upTo2_snoc hx;have hlen:=upTo2_len hall kD (Nat.le_refl _);obtain⟨W1,W2,W3,va,vb,k1,k2,k3,b2,b3,lA,_,keepA,runA,oA,g,c,hab⟩:=stepE (enc:=sdoorE) Tryz.underlying131 info_tSDoor rfl (by decide) sdoorE_len sdoorE_one (by decide) (f:=3) (T:=136) x (by decide) h.bx h.oD hlen hm h.bel.size h.ge;subst hab k2;have kp: ∀ {e:TypeId} {z n:Nat} {v:Value} {xs:List Value},e≠173→136≠e→w.ownsRow wn.heap.size e z v n xs→W3.ownsRow wn.heap.size e z v n xs:=fun he ht h'=>(keepA _ _ _ _ _ _ ht (fun q hq=>own_ne h.oD h' he hq) h').1;rw [←hsn] at oA;exact⟨W1,W2,W3,g,c,k1,k3,b2,runA,⟨b3,h.ge,kp (by decide) (by decide) h.oS,kp (by decide) (by decide) h.oP,oA,kp (by decide) (by decide) h.oR,kp (by decide) (by decide) h.oT,kp (by decide) (by decide) h.oH,h.tR.up fun _ _ _ _ _ _ he hb' h'=>by subst hb';exact kp (by rcases he with rfl|rfl<;>decide) (by rcases he with rfl|rfl<;>decide) h',h.bel.trans lA⟩⟩
theorem TS.stepR (h:TS M wn bo w vS vP vD vR vT vH kP kD kR kT kH LR) (x:REl) (r:SRouteP) (hx:toldR M kR=some r) (hxT:RowT w wn.heap.size x r) (hm:kR+1≤1099511627776):
 ∃ W1 W2 W3 g c,w.alloc (.cells (relE x).toArray 177)=W1∧W2.setCell ⟨bo,4,none⟩ (.slice (some ⟨g,0,none⟩) (kR+1) c)=W3∧Bx W2 bo 136 [.int .i64 M.hz,vS,vP,vD,vR,vT,vH]∧(Builtin.append_ #[132,132] 132 #[vR,.slice (some ⟨w.heap.size,0,none⟩) 1 1]).run Tryz.prog W1= .ok (.slice (some ⟨g,0,none⟩) (kR+1) c) W2∧
   TS M wn bo W3 vS vP vD (.slice (some ⟨g,0,none⟩) (kR+1) c) vT vH kP kD (kR+1) kT kH (LR++[x]):=by
 obtain⟨W1,W2,W3,va,vb,k1,k2,k3,b2,b3,lA,_,keepA,runA,oA,g,c,hab⟩:=stepE (enc:=relE) Tryz.underlying132 info_tSRoute rfl (by decide) relE_len relE_one (by decide) (f:=4) (T:=136) x (by decide) h.bx h.oR h.tR.len hm h.bel.size h.ge;subst hab k2;have kp: ∀ {e:TypeId} {z n:Nat} {v:Value} {xs:List Value},e≠177→136≠e→w.ownsRow wn.heap.size e z v n xs→W3.ownsRow wn.heap.size e z v n xs:=fun he ht h'=>(keepA _ _ _ _ _ _ ht (fun q hq=>own_ne h.oR h' he hq) h').1;exact⟨W1,W2,W3,g,c,k1,k3,b2,runA,⟨b3,h.ge,kp (by decide) (by decide) h.oS,kp (by decide) (by decide) h.oP,kp (by decide) (by decide) h.oD,oA,kp (by decide) (by decide) h.oT,kp (by decide) (by decide) h.oH,(RowsT.snoc h.tR hx hxT).up fun _ _ _ _ _ _ he hb' h'=>by subst hb';exact kp (by rcases he with rfl|rfl<;>decide) (by rcases he with rfl|rfl<;>decide) h',h.bel.trans lA⟩⟩
theorem TS.stepT (h:TS M wn bo w vS vP vD vR vT vH kP kD kR kT kH LR) {x:STripP} (hx:toldT M kT=some x) (hall: ∀ i,i<kT→(toldT M i).isSome) (hm:kT+1≤1099511627776):
 ∃ W1 W2 W3 g c,w.alloc (.cells (stripE x).toArray 179)=W1∧W2.setCell ⟨bo,5,none⟩ (.slice (some ⟨g,0,none⟩) (kT+1) c)=W3∧Bx W2 bo 136 [.int .i64 M.hz,vS,vP,vD,vR,vT,vH]∧(Builtin.append_ #[133,133] 133 #[vT,.slice (some ⟨w.heap.size,0,none⟩) 1 1]).run Tryz.prog W1= .ok (.slice (some ⟨g,0,none⟩) (kT+1) c) W2∧
   TS M wn bo W3 vS vP vD vR (.slice (some ⟨g,0,none⟩) (kT+1) c) vH kP kD kR (kT+1) kH LR:=by
 have hsn:=upTo2_snoc hx;have hlen:=upTo2_len hall kT (Nat.le_refl _);obtain⟨W1,W2,W3,va,vb,k1,k2,k3,b2,b3,lA,_,keepA,runA,oA,g,c,hab⟩:=stepE (enc:=stripE) Tryz.underlying133 info_tSTrip rfl (by decide) stripE_len stripE_one (by decide) (f:=5) (T:=136) x (by decide) h.bx h.oT hlen hm h.bel.size h.ge;subst hab k2;have kp: ∀ {e:TypeId} {z n:Nat} {v:Value} {xs:List Value},e≠179→136≠e→w.ownsRow wn.heap.size e z v n xs→W3.ownsRow wn.heap.size e z v n xs:=fun he ht h'=>(keepA _ _ _ _ _ _ ht (fun q hq=>own_ne h.oT h' he hq) h').1;rw [←hsn] at oA;exact⟨W1,W2,W3,g,c,k1,k3,b2,runA,⟨b3,h.ge,kp (by decide) (by decide) h.oS,kp (by decide) (by decide) h.oP,kp (by decide) (by decide) h.oD,kp (by decide) (by decide) h.oR,oA,kp (by decide) (by decide) h.oH,h.tR.up fun _ _ _ _ _ _ he hb' h'=>by subst hb';exact kp (by rcases he with rfl|rfl<;>decide) (by rcases he with rfl|rfl<;>decide) h',h.bel.trans lA⟩⟩
theorem TS.stepH (h:TS M wn bo w vS vP vD vR vT vH kP kD kR kT kH LR) {x:SHazP} (hx:toldH M kH=some x) (hall: ∀ i,i<kH→(toldH M i).isSome) (hm:kH+1≤1099511627776):
 ∃ W1 W2 W3 g c,w.alloc (.cells (shazE x).toArray 181)=W1∧W2.setCell ⟨bo,6,none⟩ (.slice (some ⟨g,0,none⟩) (kH+1) c)=W3∧Bx W2 bo 136 [.int .i64 M.hz,vS,vP,vD,vR,vT,vH]∧(Builtin.append_ #[134,134] 134 #[vH,.slice (some ⟨w.heap.size,0,none⟩) 1 1]).run Tryz.prog W1= .ok (.slice (some ⟨g,0,none⟩) (kH+1) c) W2∧
   TS M wn bo W3 vS vP vD vR vT (.slice (some ⟨g,0,none⟩) (kH+1) c) kP kD kR kT (kH+1) LR:=by
 have hsn:=upTo2_snoc hx;have hlen:=upTo2_len hall kH (Nat.le_refl _);obtain⟨W1,W2,W3,va,vb,k1,k2,k3,b2,b3,lA,_,keepA,runA,oA,g,c,hab⟩:=stepE (enc:=shazE) Tryz.underlying134 info_tSHaz rfl (by decide) shazE_len shazE_one (by decide) (f:=6) (T:=136) x (by decide) h.bx h.oH hlen hm h.bel.size h.ge;subst hab k2;have kp: ∀ {e:TypeId} {z n:Nat} {v:Value} {xs:List Value},e≠181→136≠e→w.ownsRow wn.heap.size e z v n xs→W3.ownsRow wn.heap.size e z v n xs:=fun he ht h'=>(keepA _ _ _ _ _ _ ht (fun q hq=>own_ne h.oH h' he hq) h').1;rw [←hsn] at oA;exact⟨W1,W2,W3,g,c,k1,k3,b2,runA,⟨b3,h.ge,kp (by decide) (by decide) h.oS,kp (by decide) (by decide) h.oP,kp (by decide) (by decide) h.oD,kp (by decide) (by decide) h.oR,kp (by decide) (by decide) h.oT,oA,h.tR.up fun _ _ _ _ _ _ he hb' h'=>by subst hb';exact kp (by rcases he with rfl|rfl<;>decide) (by rcases he with rfl|rfl<;>decide) h',h.bel.trans lA⟩⟩
end
