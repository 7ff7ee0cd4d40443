/- Texts of one chain, merged. -/
import Derived.Laws.EntriesVeiled
import Derived.Test.YtechdefolfboeaaGreatDoorQr18
namespace Go.Proofs.YtechdefolfboeaaGreatDoor
open Go.RowKit B K
set_option linter.unusedVariables false
set_option linter.unusedSimpArgs false
set_option maxRecDepth 100000
set_option maxHeartbeats 2000000
theorem any_range {α:Type} {l:List α} {p:α→Bool} {q:Nat→Bool} {n:Nat} (hn:l.length=n) (h: ∀ i x,l[i]?=some x→q i=p x):(List.range n).any q=l.any p:=by
 rw [Bool.eq_iff_iff]
 simp only [List.any_eq_true,List.mem_range]
 constructor
 ·rintro⟨i,hi,hq⟩
  have hx:=List.getElem?_eq_getElem (l:=l) (i:=i) (by omega)
  exact⟨_,List.mem_of_getElem? hx,by rw [←h i _ hx];exact hq⟩
 ·rintro⟨x,hx,hp⟩
  obtain⟨i,hi⟩:=List.getElem?_of_mem hx
  exact⟨i,by have:=(List.getElem?_eq_some_iff.1 hi).1;omega,by rw [h i x hi];exact hp⟩
theorem any_not {α:Type} (l:List α) (p:α→Bool):(l.any fun x=> !p x)= !l.all p:=by
 induction l with
 |nil=>rfl
 |cons x l ih=>rw [List.any_cons,List.all_cons,ih];cases p x<;>rfl
theorem pwhole_any (M:WorldP) (V:WV) (we:World) (hr:RW we M V) (hf:Few M):Calls Tryz.prog 93 #[wVal M V] we fun e w'=>e= .returned (.bool (wholeB M))∧Below we.heap.size we w':=by
 obtain⟨a0,a1,a2,a3,a4,a5,aP,aD,aR,aT,aH,n0,n1,n2,n3,n4,n5,nP,nD,nR,nT,nH,c0,c1,c2,c3,c4,c5,cP,cD,cR,cT,cH⟩:=V
 have l0:M.stops.length=n0:=hr.r0.len
 have l1:M.nPaths.length=n1:=hr.r1.len
 have l3:M.nRoutes.length=n3:=hr.r3.len
 have hL:lensB M= !(decide (n1≠nP)||(decide (n2≠nD)||(decide (n3≠nR)||(decide (n4≠nT)||decide (n5≠nH))))):=by
  have h2:M.nDoors.length=n2:=hr.r2.len
  have h4:M.nTrips.length=n4:=hr.r4.len
  have h5:M.nHazs.length=n5:=hr.r5.len
  have hP:M.paths.length=nP:=hr.rP.len
  have hD:M.doors.length=nD:=hr.rD.len
  have hR:M.routes.length=nR:=hr.rR.len
  have hT:M.trips.length=nT:=hr.rT.len
  have hH:M.hazs.length=nH:=hr.rH.len
  unfold lensB
  rw [l1,h2,l3,h4,h5,hP,hD,hR,hT,hH]
  rw [Bool.eq_iff_iff]
  simp only [Bool.and_eq_true,decide_eq_true_eq,Bool.not_eq_true',Bool.or_eq_false_iff,decide_eq_false_iff_not,Decidable.not_not]
 have mP:nP≤100000:=by rw [←show M.paths.length=nP from hr.rP.len];exact hf.sP
 have mD:nD≤100000:=by rw [←show M.doors.length=nD from hr.rD.len];exact hf.sD
 have mR:nR≤100000:=by rw [←show M.routes.length=nR from hr.rR.len];exact hf.sR
 have mT:nT≤100000:=by rw [←show M.trips.length=nT from hr.rT.len];exact hf.sT
 have mH:nH≤100000:=by rw [←show M.hazs.length=nH from hr.rH.len];exact hf.sH
 have lR:M.routes.length=nR:=hr.rR.len
 have hsr:=Lib.hid hf.sr
 simp only [wVal]
 obtain⟨w1,b1,hw1,hbE1,hb1,hup,B1,hge1⟩:=enter1 we 31 [.int .i64 M.hz,.slice a0 n0 c0,.slice a1 n1 c1,.slice a2 n2 c2,.slice a3 n3 c3,.slice a4 n4 c4,.slice a5 n5 c5,.slice aP nP cP,.slice aD nD cD,.slice aR nR cR,.slice aT nT cT,.slice aH nH cH]
 have hR1:=Lib.hid (hr.below hup.out)
 have p0:=B1.cell 0 rfl
 have p1:=B1.cell 1 rfl
 have p2:=B1.cell 2 rfl
 have p3:=B1.cell 3 rfl
 have p4:=B1.cell 4 rfl
 have p5:=B1.cell 5 rfl
 have p6:=B1.cell 6 rfl
 have p7:=B1.cell 7 rfl
 have p8:=B1.cell 8 rfl
 have p9:=B1.cell 9 rfl
 have p10:=B1.cell 10 rfl
 have p11:=B1.cell 11 rfl
 have B1H:=Lib.hid B1
 clear hr hf B1 hb1
 obtain⟨wn,bn,hwn,hbnE,hbwn,Bwn⟩:=box1 w1 24 [.slice a0 n0 c0,.slice a1 n1 c1,.slice a2 n2 c2,.slice a3 n3 c3,.slice a4 n4 c4,.slice a5 n5 c5]
 have hbN:=Lib.hid (hup.out.trans (hbwn.mono hup.out.size))
 have hRn:=Lib.hid (hR1.out.below hbwn)
 have z0:=Bwn.cell 0 rfl
 have z1:=Bwn.cell 1 rfl
 have z2:=Bwn.cell 2 rfl
 have z3:=Bwn.cell 3 rfl
 have z4:=Bwn.cell 4 rfl
 have z5:=Bwn.cell 5 rfl
 have B1n:=Lib.hid (B1H.out.below hbwn)
 have r0:=B1n.out.cell 0 rfl
 have r1:=B1n.out.cell 1 rfl
 have r2:=B1n.out.cell 2 rfl
 have r3:=B1n.out.cell 3 rfl
 have r4:=B1n.out.cell 4 rfl
 have r5:=B1n.out.cell 5 rfl
 have r6:=B1n.out.cell 6 rfl
 have r7:=B1n.out.cell 7 rfl
 have r8:=B1n.out.cell 8 rfl
 have r9:=B1n.out.cell 9 rfl
 have r10:=B1n.out.cell 10 rfl
 have r11:=B1n.out.cell 11 rfl
 have BwnH:=Lib.hid Bwn
 clear Bwn hbwn B1H
 have hLH:=Lib.hid hL
 clear hL
 have hW0:Hid (wholeB M=(((((lensB M&&M.paths.all (okP M))&&M.doors.all (okD M))&&M.routes.all (okR M))&&M.trips.all (okT M))&&M.hazs.all (okH M))):=rfl
 by_cases e0:n1=nP
 ·have d0:((n1:Int) !=(nP:Int))=false:=by simp [e0]
  replace e0:=Lib.hid e0
  by_cases e1:n2=nD
  ·have d1:((n2:Int) !=(nD:Int))=false:=by simp [e1]
   replace e1:=Lib.hid e1
   by_cases e2:n3=nR
   ·have d2:((n3:Int) !=(nR:Int))=false:=by simp [e2]
    replace e2:=Lib.hid e2
    by_cases e3:n4=nT
    ·have d3:((n4:Int) !=(nT:Int))=false:=by simp [e3]
     replace e3:=Lib.hid e3
     by_cases e4:n5=nH
     ·have d4:((n5:Int) !=(nH:Int))=false:=by simp [e4]
      replace e4:=Lib.hid e4
      have hl:Hid (lensB M=true):=by show _=_;rw [hLH.out];simp [e0.out,e1.out,e2.out,e3.out,e4.out]
      have hW1:Hid (wholeB M=((((M.paths.all (okP M)&&M.doors.all (okD M))&&M.routes.all (okR M))&&M.trips.all (okT M))&&M.hazs.all (okH M))):=by show _=_;rw [hW0.out,hl.out];simp
      clear hl hW0 hLH e0 e1 e2 e3 e4
      obtain⟨wa,ba,hwa,hbaE,hbwa,Bwa⟩:=box1 wn 154 [.func (.func 117) #[] #[]]
      obtain⟨wb,bb,hwb,hbbE,hbwb,Bwb⟩:=box1 wa 123 [.func (.func 118) #[] #[.pointer (some ⟨ba,0,none⟩),.pointer (some ⟨bn,0,none⟩)]]
      have hbAB:=hbwa.trans (hbwb.mono hbwa.size)
      have hWC:Hid (WC wb bn ba bb ⟨a0,a1,a2,a3,a4,a5,aP,aD,aR,aT,aH,n0,n1,n2,n3,n4,n5,nP,nD,nR,nT,nH,c0,c1,c2,c3,c4,c5,cP,cD,cR,cT,cH⟩):=by
       have h1:=(BwnH.out.below hbwa).below hbwb
       exact⟨(Bwa.below hbwb).cell 0 rfl,Bwb.cell 0 rfl,h1.cell 0 rfl,h1.cell 1 rfl,h1.cell 3 rfl⟩
      have hRb:=Lib.hid (hRn.out.below hbAB)
      have B1b:=Lib.hid (B1n.out.below hbAB)
      have hbB:=Lib.hid (hbN.out.trans (hbAB.mono hbN.out.size))
      obtain⟨LR,hRd,hRw⟩:=hRb.out.rR.rows
      replace hRd:=Lib.hid hRd
      replace hRw:=Lib.hid hRw
      let qR:Nat→Bool:=fun i=>match M.routes[i]? with|some r=>r.stops.any fun s=> !inB s n0|none=>false
      have hqR:Hid ((List.range nR).any qR= !M.routes.all (okR M)):=by
       show _=_
       rw [←any_not]
       refine any_range lR fun i x hx=>?_
       show(match M.routes[i]? with|some r=>r.stops.any fun s=> !inB s n0|none=>false)=_
       simp only [hx]
       unfold okR
       rw [l0,any_not]
      have wS: ∀ v,wb.cell? ⟨b1,v,none⟩=wb.cell? ⟨b1,v,none⟩:=fun _=>rfl
      clear wS
      have cF0:Hid (∀ w,Below wb.heap.size wb w→Calls Tryz.prog 119 #[.slice aP nP cP,.func (.func 120) #[] #[.pointer (some ⟨bb,0,none⟩)]] w fun e w'=>e= .returned (.bool (!M.paths.all (okP M)))∧Below w.heap.size w w'):=fun w h=>by
       rw [←any_not]
       exact(ctfP_any 120 #[.pointer (some ⟨bb,0,none⟩)] (enters_of Tryz.func120 (by kernel_rfl) rfl) (fun p=> !okP M p) aP nP cP M.paths w (hRb.out.rP.below h) (by omega) (fun W x hb _=>by have:=podd3_any bn ba bb ⟨a0,a1,a2,a3,a4,a5,aP,aD,aR,aT,aH,n0,n1,n2,n3,n4,n5,nP,nD,nR,nT,nH,c0,c1,c2,c3,c4,c5,cP,cD,cR,cT,cH⟩ x W (hWC.out.below (h.trans (hb.mono h.size)));unfold okP;rw [l0];exact this))
      have cF1:Hid (∀ w,Below wb.heap.size wb w→Calls Tryz.prog 121 #[.slice aD nD cD,.func (.func 122) #[] #[.pointer (some ⟨bb,0,none⟩)]] w fun e w'=>e= .returned (.bool (!M.doors.all (okD M)))∧Below w.heap.size w w'):=fun w h=>by
       rw [←any_not]
       exact(ctfD_any 122 #[.pointer (some ⟨bb,0,none⟩)] (enters_of Tryz.func122 (by kernel_rfl) rfl) (fun p=> !okD M p) aD nD cD M.doors w (hRb.out.rD.below h) (by omega) (fun W x hb _=>by have:=podd4_any bn ba bb ⟨a0,a1,a2,a3,a4,a5,aP,aD,aR,aT,aH,n0,n1,n2,n3,n4,n5,nP,nD,nR,nT,nH,c0,c1,c2,c3,c4,c5,cP,cD,cR,cT,cH⟩ x W (hWC.out.below (h.trans (hb.mono h.size)));unfold okD;rw [l0];exact this))
      have cF2:Hid (∀ w,Below wb.heap.size wb w→Calls Tryz.prog 123 #[.slice aR nR cR,.func (.func 124) #[] #[.pointer (some ⟨bb,0,none⟩)]] w fun e w'=>e= .returned (.bool (!M.routes.all (okR M)))∧Below w.heap.size w w'):=fun w h=>by
       rw [←hqR.out]
       exact(ctfR_any 124 #[.pointer (some ⟨bb,0,none⟩)] (enters_of Tryz.func124 (by kernel_rfl) rfl) qR aR nR cR LR w (hRd.out.below h) (by omega) (fun W i x hb hx=>by
        obtain⟨r,hr⟩: ∃ r,M.routes[i]?=some r:=⟨_,List.getElem?_eq_getElem (by have h1:=(List.getElem?_eq_some_iff.1 hx).1;have h2:=hRw.out.len;omega)⟩
        have hT:=hRw.out.at_ i x r hx hr
        have hm:=(hsr.out r (List.mem_of_getElem? hr)).1
        have:=podd5_any bn ba bb ⟨a0,a1,a2,a3,a4,a5,aP,aD,aR,aT,aH,n0,n1,n2,n3,n4,n5,nP,nD,nR,nT,nH,c0,c1,c2,c3,c4,c5,cP,cD,cR,cT,cH⟩ x r.stops W (hWC.out.below (h.trans (hb.mono h.size))) (hT.1.below (h.trans (hb.mono h.size))) (by have:=hT.1.len;omega)
        rw [show qR i=r.stops.any fun s=> !inB s n0 by show(match M.routes[i]? with|some r=>_|none=>_)=_;rw [hr]]
        exact this))
      have cF3:Hid (∀ w,Below wb.heap.size wb w→Calls Tryz.prog 126 #[.slice aT nT cT,.func (.func 127) #[] #[.pointer (some ⟨ba,0,none⟩),.pointer (some ⟨bn,0,none⟩)]] w fun e w'=>e= .returned (.bool (!M.trips.all (okT M)))∧Below w.heap.size w w'):=fun w h=>by
       rw [←any_not]
       exact(ctfT_any 127 #[.pointer (some ⟨ba,0,none⟩),.pointer (some ⟨bn,0,none⟩)] (enters_of Tryz.func127 (by kernel_rfl) rfl) (fun p=> !okT M p) aT nT cT M.trips w (hRb.out.rT.below h) (by omega) (fun W x hb _=>by have:=podd6_any bn ba bb ⟨a0,a1,a2,a3,a4,a5,aP,aD,aR,aT,aH,n0,n1,n2,n3,n4,n5,nP,nD,nR,nT,nH,c0,c1,c2,c3,c4,c5,cP,cD,cR,cT,cH⟩ x W (hWC.out.below (h.trans (hb.mono h.size)));unfold okT;rw [l3];exact this))
      have cF4:Hid (∀ w,Below wb.heap.size wb w→Calls Tryz.prog 128 #[.slice aH nH cH,.func (.func 129) #[] #[.pointer (some ⟨bb,0,none⟩),.pointer (some ⟨ba,0,none⟩),.pointer (some ⟨bn,0,none⟩)]] w fun e w'=>e= .returned (.bool (!M.hazs.all (okH M)))∧Below w.heap.size w w'):=fun w h=>by
       rw [←any_not]
       exact(ctfH_any 129 #[.pointer (some ⟨bb,0,none⟩),.pointer (some ⟨ba,0,none⟩),.pointer (some ⟨bn,0,none⟩)] (enters_of Tryz.func129 (by kernel_rfl) rfl) (fun p=> !okH M p) aH nH cH M.hazs w (hRb.out.rH.below h) (by omega) (fun W x hb _=>by have:=podd7_any bn ba bb ⟨a0,a1,a2,a3,a4,a5,aP,aD,aR,aT,aH,n0,n1,n2,n3,n4,n5,nP,nD,nR,nT,nH,c0,c1,c2,c3,c4,c5,cP,cD,cR,cT,cH⟩ x W (hWC.out.below (h.trans (hb.mono h.size)));unfold okH;rw [l0,l1];exact this))
      have s0:=B1b.out.cell 0 rfl
      have s1:=B1b.out.cell 1 rfl
      have s2:=B1b.out.cell 2 rfl
      have s3:=B1b.out.cell 3 rfl
      have s4:=B1b.out.cell 4 rfl
      have s5:=B1b.out.cell 5 rfl
      have s6:=B1b.out.cell 6 rfl
      have s7:=B1b.out.cell 7 rfl
      have s8:=B1b.out.cell 8 rfl
      have s9:=B1b.out.cell 9 rfl
      have s10:=B1b.out.cell 10 rfl
      have s11:=B1b.out.cell 11 rfl
      clear hbwa hbwb hbAB Bwa Bwb hRw hRd
      clear hqR
      clear qR
      obtain⟨v0,v1,v2,v3,v4,hv⟩: ∃ v0 v1 v2 v3 v4,M.paths.all (okP M)=v0∧M.doors.all (okD M)=v1∧M.routes.all (okR M)=v2∧M.trips.all (okT M)=v3∧M.hazs.all (okH M)=v4:=⟨_,_,_,_,_,rfl,rfl,rfl,rfl,rfl⟩
      obtain⟨hv0,hv1,hv2,hv3,hv4⟩:=hv
      rw [hv0] at cF0 hW1
      rw [hv1] at cF1 hW1
      rw [hv2] at cF2 hW1
      rw [hv3] at cF3 hW1
      rw [hv4] at cF4 hW1
      rw [hW1.out]
      clear hv0 hv1 hv2 hv3 hv4 hW1
      go_enter Tryz.func93,Tryz.ntmps93
      go_wp2_with fail
      refine(cF0.out wb (Below.refl _ _)).mono ?_;rintro e x1 ⟨rfl,hx1⟩
      have X1:Hid (Below wb.heap.size wb x1):=hx1
      have s8':=up_cell X1.out s8
      clear hx1
      cases v0 with
      |false=>
       go_wp2_with fail
       clear hw1 hbE1 hwn hbnE hwa hbaE hwb hbbE
       go_returns
       exact⟨by simp,(hbB.out.trans (X1.out.mono hbB.out.size))⟩
      |true=>
       go_wp2_with fail
       refine(cF1.out x1 X1.out).mono ?_;rintro e x2 ⟨rfl,hx2⟩
       have X2:Hid (Below wb.heap.size wb x2):=X1.out.trans (hx2.mono X1.out.size)
       have s9':=up_cell X2.out s9
       clear hx2
       cases v1 with
       |false=>
        go_wp2_with fail
        clear hw1 hbE1 hwn hbnE hwa hbaE hwb hbbE
        go_returns
        exact⟨by simp,(hbB.out.trans (X2.out.mono hbB.out.size))⟩
       |true=>
        go_wp2_with fail
        refine(cF2.out x2 X2.out).mono ?_;rintro e x3 ⟨rfl,hx3⟩
        have X3:Hid (Below wb.heap.size wb x3):=X2.out.trans (hx3.mono X2.out.size)
        have s10':=up_cell X3.out s10
        clear hx3
        cases v2 with
        |false=>
         go_wp2_with fail
         clear hw1 hbE1 hwn hbnE hwa hbaE hwb hbbE
         go_returns
         exact⟨by simp,(hbB.out.trans (X3.out.mono hbB.out.size))⟩
        |true=>
         go_wp2_with fail
         refine(cF3.out x3 X3.out).mono ?_;rintro e x4 ⟨rfl,hx4⟩
         have X4:Hid (Below wb.heap.size wb x4):=X3.out.trans (hx4.mono X3.out.size)
         have s11':=up_cell X4.out s11
         clear hx4
         cases v3 with
         |false=>
          go_wp2_with fail
          clear hw1 hbE1 hwn hbnE hwa hbaE hwb hbbE
          go_returns
          exact⟨by simp,(hbB.out.trans (X4.out.mono hbB.out.size))⟩
         |true=>
          go_wp2_with fail
          refine(cF4.out x4 X4.out).mono ?_;rintro e x5 ⟨rfl,hx5⟩
          have X5:Hid (Below wb.heap.size wb x5):=X4.out.trans (hx5.mono X4.out.size)
          clear hx5
          go_wp2_with fail
          clear hw1 hbE1 hwn hbnE hwa hbaE hwb hbbE
          go_returns
          exact⟨by simp,(hbB.out.trans (X5.out.mono hbB.out.size))⟩
     ·have d4:((n5:Int) !=(nH:Int))=true:=by simp;omega
      have hno:Hid (wholeB M=false):=by show _=_;rw [hW0.out,hLH.out];simp [e4]
      rw [hno.out]
      clear hno hLH hW0 e4
      go_enter Tryz.func93,Tryz.ntmps93
      go_wp2_with fail
      clear hw1 hbE1 hwn hbnE
      go_returns
      exact⟨rfl,hbN.out⟩
    ·have d3:((n4:Int) !=(nT:Int))=true:=by simp;omega
     have hno:Hid (wholeB M=false):=by show _=_;rw [hW0.out,hLH.out];simp [e3]
     rw [hno.out]
     clear hno hLH hW0 e3
     go_enter Tryz.func93,Tryz.ntmps93
     go_wp2_with fail
     clear hw1 hbE1 hwn hbnE
     go_returns
     exact⟨rfl,hbN.out⟩
   ·have d2:((n3:Int) !=(nR:Int))=true:=by simp;omega
    have hno:Hid (wholeB M=false):=by show _=_;rw [hW0.out,hLH.out];simp [e2]
    rw [hno.out]
    clear hno hLH hW0 e2
    go_enter Tryz.func93,Tryz.ntmps93
    go_wp2_with fail
    clear hw1 hbE1 hwn hbnE
    go_returns
    exact⟨rfl,hbN.out⟩
  ·have d1:((n2:Int) !=(nD:Int))=true:=by simp;omega
   have hno:Hid (wholeB M=false):=by show _=_;rw [hW0.out,hLH.out];simp [e1]
   rw [hno.out]
   clear hno hLH hW0 e1
   go_enter Tryz.func93,Tryz.ntmps93
   go_wp2_with fail
   clear hw1 hbE1 hwn hbnE
   go_returns
   exact⟨rfl,hbN.out⟩
 ·have d0:((n1:Int) !=(nP:Int))=true:=by simp;omega
  have hno:Hid (wholeB M=false):=by show _=_;rw [hW0.out,hLH.out];simp [e0]
  rw [hno.out]
  clear hno hLH hW0 e0
  go_enter Tryz.func93,Tryz.ntmps93
  go_wp2_with fail
  clear hw1 hbE1 hwn hbnE
  go_returns
  exact⟨rfl,hbN.out⟩
end Go.Proofs.YtechdefolfboeaaGreatDoor
