/- Merged. -/
import Derived.Test.YtechdefolfboeaaGreatDoorPo15
set_option linter.unusedVariables false
set_option linter.unusedSimpArgs false
set_option maxRecDepth 100000
set_option maxHeartbeats 2000000
namespace Go.Proofs.YtechdefolfboeaaGreatDoor
open Go.RowKit B K
theorem scheck1_any (s:Str) (w:World) (h:Sp w):Calls Tryz.prog 165 #[.string s] w fun e w'=>e= .returned (.bool (!nameB s))∧Below w.heap.size w w':=by
 have hn:=H_ (lname_any s w h);clear h;go_enter Tryz.func165,Tryz.ntmps165;go_wp2_with fail;refine hn.out.mono ?_;rintro e w' ⟨rfl,hb⟩;have hbH:=H_ hb;clear hb;go_wp2_with fail;go_returns;exact⟨rfl,hbH.out⟩
theorem scheck2_any (x:Int) (w:World):Calls Tryz.prog 169 #[.int .i64 x] w fun e w'=>e= .returned (.bool (!decide (W.chk x=0)))∧Below w.heap.size w w':=by
 have ht:=H_ (tcheckW_any x w);obtain⟨q,hq⟩: ∃ q,W.chk x=q:=⟨_,rfl⟩
 rw [hq] at ht ⊢;clear hq;go_enter Tryz.func169,Tryz.ntmps169;go_wp2_with fail;refine ht.out.mono ?_;rintro e w' ⟨rfl,rfl⟩;go_wp2_with fail;go_returns;exact⟨ret_bool (by by_cases h:q=0<;>simp [h]),Below.refl _ _⟩
def shpE (e:REl):Bool:=decide (2≤e.2.1.2.1)&&(decide (e.2.1.2.1≤32)&&(decide (e.2.2.1.2.1+1=e.2.1.2.1)&&decide (e.2.2.2.2.1+2=e.2.1.2.1)))
theorem scheck3_any (e:REl) (we:World) (hm:e.2.1.2.1≤1000000) (h2:e.2.2.1.2.1≤1000000) (h3:e.2.2.2.2.1≤1000000):Calls Tryz.prog 171 #[.agg (relE e).toArray] we fun r w'=>r= .returned (.bool (!shpE e))∧Below we.heap.size we w':=by
 obtain⟨x0,⟨x1,x2,x3⟩,⟨x4,x5,x6⟩,⟨x7,x8,x9⟩⟩:=e;simp only at hm h2 h3
 have hR:Hid ((!shpE (⟨x0,⟨x1,x2,x3⟩,⟨x4,x5,x6⟩,⟨x7,x8,x9⟩⟩:REl))=(decide ((x2:Int)<2)||(decide ((32:Int)<(x2:Int))||(((x5:Int) !=(x2:Int)-1)||((x8:Int) !=(x2:Int)-2))))):=by
  show _=_;unfold shpE;rw [Bool.eq_iff_iff];simp only [Bool.not_eq_true',Bool.and_eq_false_iff,decide_eq_false_iff_not,Bool.or_eq_true,decide_eq_true_eq,bne_iff_ne];omega
 rw [hR.out];simp only [relE,SlV.v];obtain⟨wa,ba,hwa,hbaE,hbwa,Bwa⟩:=box1 we 177 [.string x0,.slice x1 x2 x3,.slice x4 x5 x6,.slice x7 x8 x9];have q1:=Bwa.cell 1 rfl;have q2:=Bwa.cell 2 rfl;have q3:=Bwa.cell 3 rfl;have hbaH:=H_ hbwa;clear Bwa hbwa
 cases d1:decide ((x2:Int)<2) with
 |true=>
  go_enter Tryz.func171,Tryz.ntmps171;go_wp2_with fail;clear hwa hbaE;go_returns;exact⟨rfl,hbaH.out⟩
 |false=>
  cases d2:decide ((32:Int)<(x2:Int)) with
  |true=>
   go_enter Tryz.func171,Tryz.ntmps171;go_wp2_with fail;clear hwa hbaE;go_returns;exact⟨rfl,hbaH.out⟩
  |false=>
   cases d3:((x5:Int) !=(x2:Int)-1) with
   |true=>
    go_enter Tryz.func171,Tryz.ntmps171;go_wp2_with fail;clear hwa hbaE;go_returns;exact⟨rfl,hbaH.out⟩
   |false=>
    go_enter Tryz.func171,Tryz.ntmps171;go_wp2_with fail;clear hwa hbaE;go_returns;exact⟨rfl,hbaH.out⟩
theorem RSRoutes.rows {w:World} {A:Option Addr} {n:Nat} {l:List SRouteP} (h:RSRoutes w A n l): ∃ L:List REl,Rd w 4 relE A n L∧RowsG (fun w e r=>e.1=r.name∧Rd w 1 strE e.2.1.1 e.2.1.2.1 r.stops∧Rd w 1 (numE .i64) e.2.2.1.1 e.2.2.1.2.1 r.rides∧Rd w 1 (numE .i64) e.2.2.2.1 e.2.2.2.2.1 r.stays) w L l:=by
 have key: ∀ k:Nat, ∃ e:REl, ∀ r,l[k]?=some r→ ∃ b o,A=some ⟨b,o,none⟩∧b<w.heap.size∧(∀ (j:Nat) u,(relE e)[j]?=some u→w.cell? ⟨b,o+k*4+j,none⟩=some u)∧e.1=r.name∧Rd w 1 strE e.2.1.1 e.2.1.2.1 r.stops∧Rd w 1 (numE .i64) e.2.2.1.1 e.2.2.1.2.1 r.rides∧Rd w 1 (numE .i64) e.2.2.2.1 e.2.2.2.2.1 r.stays:=fun k=>by
  cases hk:l[k]? with
  |none=>exact⟨(ByteArray.empty,(none,0,0),(none,0,0),(none,0,0)),fun r hr=>by cases hr⟩
  |some r=>
   obtain⟨b,o,e,hb,h0,⟨s1,n1,c1,h1,r1,_⟩,⟨s2,n2,c2,h2,r2,_⟩,⟨s3,n3,c3,h3,r3,_⟩⟩:=h.at_ k r hk;refine⟨(r.name,(s1,n1,c1),(s2,n2,c2),(s3,n3,c3)),fun r' hr'=>?_⟩;cases hr';refine⟨b,o,e,hb,fun j u hu=>?_,rfl,r1,r2,r3⟩
   match j,hu with
   |0,hu=>simp [relE,SlV.v] at hu;subst hu;exact h0
   |1,hu=>simp [relE,SlV.v] at hu;subst hu;exact h1
   |2,hu=>simp [relE,SlV.v] at hu;subst hu;exact h2
   |3,hu=>simp [relE,SlV.v] at hu;subst hu;exact h3
   |j+4,hu=>simp [relE] at hu
 obtain⟨f,hf⟩:=Classical.axiomOfChoice key;have hlen:((List.range n).map f).length =n:=by simp
 have hat: ∀ k e,((List.range n).map f)[k]?=some e→k<n∧e=f k:=fun k e he=>by
  have hk:k<n:=by have:=(List.getElem?_eq_some_iff.1 he).1;rwa [hlen] at this
  rw [List.getElem?_map,List.getElem?_range hk] at he;exact⟨hk,(Option.some.inj he).symm⟩
 have hl: ∀ k,k<n→ ∃ r,l[k]?=some r:=fun k hk=>⟨_,List.getElem?_eq_getElem (by rw [h.len];exact hk)⟩
 refine⟨(List.range n).map f,⟨hlen,fun hn=>?_⟩,⟨by rw [hlen,h.len],fun k e r he hr=>?_⟩⟩
 ·obtain⟨r0,hr0⟩:=hl 0 hn;obtain⟨b,o,e,hb,_⟩:=hf 0 r0 hr0;refine⟨b,o,e,hb,fun i x hx j u hu=>?_⟩;obtain⟨hi,rfl⟩:=hat i x hx;obtain⟨r,hr⟩:=hl i hi;obtain⟨b',o',e',_,hc,_⟩:=hf i r hr;rw [e] at e';cases e';exact hc j u hu
 ·obtain⟨hi,rfl⟩:=hat k e he;obtain⟨b,o,_,_,_,hh⟩:=hf k r hr;exact hh
theorem shp_any {w:World} {L:List REl} {l:List SRouteP} (h:RowsG (fun w e r=>e.1=r.name∧Rd w 1 strE e.2.1.1 e.2.1.2.1 r.stops∧Rd w 1 (numE .i64) e.2.2.1.1 e.2.2.1.2.1 r.rides∧Rd w 1 (numE .i64) e.2.2.2.1 e.2.2.2.2.1 r.stays) w L l):(L.any fun e=> !shpE e)= !l.all shapeB:=by
 rw [any_not]
 congr 1
 have key: ∀ k e r,L[k]?=some e→l[k]?=some r→shpE e=shapeB r:=fun k e r he hr=>by
  obtain⟨_,h1,h2,h3⟩:=h.at_ k e r he hr;unfold shpE shapeB;rw [h1.len,h2.len,h3.len]
 rw [Bool.eq_iff_iff,List.all_eq_true,List.all_eq_true];constructor
 ·intro hh r hr;obtain⟨k,hk⟩:=List.getElem?_of_mem hr;obtain⟨e,he,_⟩:=h.get hk;rw [←key k e r he hk];exact hh e (List.mem_of_getElem? he)
 ·intro hh e he;obtain⟨k,hk⟩:=List.getElem?_of_mem he;have hkl:k<l.length:=by rw [←h.len];exact(List.getElem?_eq_some_iff.1 hk).1
  rw [key k e _ hk (List.getElem?_eq_getElem hkl)];exact hh _ (List.getElem_mem hkl)
theorem scheck_any (X:SheetP) (V:SV) (we:World) (hr:RS we X V) (hf:FewS X) (hsp:Sp we):Calls Tryz.prog 130 #[sVal X V] we (RetE we (sheetB nameB X)):=by
 have hnm:=H_ (fun(w:World) (h:RS w X V)=>snames_any X V w h hf);have hnu:=H_ (fun(w:World) (h:RS w X V)=>snums_any X V w h hf);have hl1:=H_ (namesL_le hf);have hl2:=H_ (numsL_le hf);have hsr:=H_ hf.sr;have mR:X.routes.length≤100000:=hf.sR;obtain⟨a0,aP,aD,aR,aT,aH,n0,nP,nD,nR,nT,nH,c0,cP,cD,cR,cT,cH⟩:=V
 have hL:lensS X= !(decide (256<n0)||(decide (1024<nP)||(decide (256<nD)||(decide (256<nR)||(decide (1024<nT)||decide (256<nH)))))):=by
  have h1:X.paths.length=nP:=hr.rP.len;have h2:X.doors.length=nD:=hr.rD.len;have h3:X.routes.length=nR:=hr.rR.len;have h4:X.trips.length=nT:=hr.rT.len;have h5:X.hazs.length=nH:=hr.rH.len;have h0:X.stops.length=n0:=hr.r0.len;unfold lensS;rw [h0,h1,h2,h3,h4,h5,Bool.eq_iff_iff];simp only [Bool.and_eq_true,decide_eq_true_eq,Bool.not_eq_true',Bool.or_eq_false_iff,decide_eq_false_iff_not,Nat.not_lt]
 have hmR:nR≤100000:=by rw [←show X.routes.length=nR from hr.rR.len];exact mR
 simp only [sVal] at*;obtain⟨w1,b1,hw1,hbE1,hb1,hup,B1,hge1⟩:=enter1 we 136 [.int .i64 X.hz,.slice a0 n0 c0,.slice aP nP cP,.slice aD nD cD,.slice aR nR cR,.slice aT nT cT,.slice aH nH cH];have hR:=H_ (hr.below hup.out);have hS:=H_ (hsp.below hup.out);obtain⟨p0,p1,p2,p3,p4,p5,p6⟩:=c_7 B1;have B1:=H_ B1;rename_i gX;clear gX hr hf hb1 hsp mR;have hLH:=H_ hL;clear hL;by_cases e0:256<n0
 ·have d0:decide ((256:Int)<(n0:Int))=true:=T_ (by omega);have d0':decide (256<n0)=true:=T_ e0;have hno:Hid (lensS X=false):=by show _=_;rw [hLH.out];simp [e0]
  clear hLH;go_enter Tryz.func130,Tryz.ntmps130;go_wp2_with fail;clear hw1 hbE1;go_returns;exact RetE.no (by decide) (sheetB_len hno.out) hup.out
 ·have d0:decide ((256:Int)<(n0:Int))=false:=F_ (by omega);have d0':decide (256<n0)=false:=F_ e0;by_cases e1:1024<nP
  ·have d1:decide ((1024:Int)<(nP:Int))=true:=T_ (by omega);have d1':decide (1024<nP)=true:=T_ e1;have hno:Hid (lensS X=false):=by show _=_;rw [hLH.out];simp [e1]
   clear hLH;go_enter Tryz.func130,Tryz.ntmps130;go_wp2_with fail;clear hw1 hbE1;go_returns;exact RetE.no (by decide) (sheetB_len hno.out) hup.out
  ·have d1:decide ((1024:Int)<(nP:Int))=false:=F_ (by omega);have d1':decide (1024<nP)=false:=F_ e1;by_cases e2:256<nD
   ·have d2:decide ((256:Int)<(nD:Int))=true:=T_ (by omega);have d2':decide (256<nD)=true:=T_ e2;have hno:Hid (lensS X=false):=by show _=_;rw [hLH.out];simp [e2]
    clear hLH;go_enter Tryz.func130,Tryz.ntmps130;go_wp2_with fail;clear hw1 hbE1;go_returns;exact RetE.no (by decide) (sheetB_len hno.out) hup.out
   ·have d2:decide ((256:Int)<(nD:Int))=false:=F_ (by omega);have d2':decide (256<nD)=false:=F_ e2;by_cases e3:256<nR
    ·have d3:decide ((256:Int)<(nR:Int))=true:=T_ (by omega);have d3':decide (256<nR)=true:=T_ e3;have hno:Hid (lensS X=false):=by show _=_;rw [hLH.out];simp [e3]
     clear hLH;go_enter Tryz.func130,Tryz.ntmps130;go_wp2_with fail;clear hw1 hbE1;go_returns;exact RetE.no (by decide) (sheetB_len hno.out) hup.out
    ·have d3:decide ((256:Int)<(nR:Int))=false:=F_ (by omega);have d3':decide (256<nR)=false:=F_ e3;by_cases e4:1024<nT
     ·have d4:decide ((1024:Int)<(nT:Int))=true:=T_ (by omega);have d4':decide (1024<nT)=true:=T_ e4;have hno:Hid (lensS X=false):=by show _=_;rw [hLH.out];simp [e4]
      clear hLH;go_enter Tryz.func130,Tryz.ntmps130;go_wp2_with fail;clear hw1 hbE1;go_returns;exact RetE.no (by decide) (sheetB_len hno.out) hup.out
     ·have d4:decide ((1024:Int)<(nT:Int))=false:=F_ (by omega);have d4':decide (1024<nT)=false:=F_ e4;by_cases e5:256<nH
      ·have d5:decide ((256:Int)<(nH:Int))=true:=T_ (by omega);have d5':decide (256<nH)=true:=T_ e5;have hno:Hid (lensS X=false):=by show _=_;rw [hLH.out];simp [e5]
       clear hLH;go_enter Tryz.func130,Tryz.ntmps130;go_wp2_with fail;clear hw1 hbE1;go_returns;exact RetE.no (by decide) (sheetB_len hno.out) hup.out
      ·have d5:decide ((256:Int)<(nH:Int))=false:=F_ (by omega);have d5':decide (256<nH)=false:=F_ e5;have hyes:Hid (lensS X=true):=by show _=_;rw [hLH.out,d0',d1',d2',d3',d4',d5'];rfl
       clear hLH d0' d1' d2' d3' d4' d5';go_enter Tryz.func130,Tryz.ntmps130;go_wp2_with fail;refine(hnm.out w1 hR.out).mono ?_;rintro e w2 ⟨A,n,c,rfl,rd,hnc,hc,hb2⟩;clear hw1 hbE1 d0 d1 d2 d3 d4 d5 p0 p1 p2 p3 p4 p5 p6;have hb2H:=H_ hb2;have hnl:n≤1099511627776:=by have:=rd.len;have:=hl1.out;omega
       have rdH:=H_ rd;have hS2:=H_ (hS.out.below hb2);clear rd hb2;go_wp2_with fail;refine(ctfS_any 165 #[] (enters_of Tryz.func165 (by kernel_rfl) rfl) (fun s=> !nameB s) A n c (namesL X) w2 rdH.out hnl (fun W x hb _=>scheck1_any x W (hS2.out.below hb))).mono ?_;rintro e w3 ⟨rfl,hb3⟩;have h3:=h_ hb2H hb3;clear hb3 hS2 rdH;rw [any_not];have hU3:=h_ hup h3.out
       cases hv:(namesL X).all nameB with
       |false=>
        have hvH:=H_ hv;clear hv;go_wp2_with fail;go_returns;exact RetE.no (by decide) (sheetB_nam hvH.out) hU3.out
       |true=>
        have hvH:=H_ hv;clear hv;obtain⟨p0,p1,p2,p3,p4,p5,p6⟩:=c_7 (B1.out.below h3.out);go_wp2_with fail;refine(hnu.out w3 (hR.out.below h3.out)).mono ?_;rintro e w4 ⟨A4,n4,c4,rfl,rd,hnc4,hc4,hb4⟩;clear p0 p1 p2 p3 p4 p5 p6;have h4:=h_ h3 hb4;have hnl4:n4≤1099511627776:=by have:=rd.len;have:=hl2.out;omega
        have rdH:=H_ rd;clear rd hb4;go_wp2_with fail;refine(ctfN_any 169 #[] (enters_of Tryz.func169 (by kernel_rfl) rfl) (fun x=> !decide (W.chk x=0)) A4 n4 c4 (numsL X) w4 rdH.out hnl4 (fun W x _ _=>scheck2_any x W)).mono ?_;rintro e w5 ⟨rfl,hb5⟩;have h5:=h_ h4 hb5;clear hb5 rdH;rw [any_not];have hU5:=h_ hup h5.out
        cases hv2:(numsL X).all (fun x=>decide (W.chk x=0)) with
        |false=>
         have hv2H:=H_ hv2;clear hv2;go_wp2_with fail;go_returns;exact RetE.no (by decide) (sheetB_num hv2H.out) hU5.out
        |true=>
         have hv2H:=H_ hv2;clear hv2;obtain⟨L,hRd,hRw⟩:=((hR.out.below h5.out).rR).rows;have hsa:=H_ (shp_any hRw)
         have hct:=H_ (ctfSR_any 171 #[] (enters_of Tryz.func171 (by kernel_rfl) rfl) (fun e=> !shpE e) aR nR cR L w5 hRd (by omega) (fun W x _ hx=>by
          obtain⟨k,hk⟩:=List.getElem?_of_mem hx;have hkl:k<X.routes.length:=by rw [←hRw.len];exact(List.getElem?_eq_some_iff.1 hk).1
          obtain⟨_,q1,q2,q3⟩:=hRw.at_ k x _ hk (List.getElem?_eq_getElem hkl);obtain⟨m1,m2,m3⟩:=hsr.out _ (List.getElem_mem hkl);exact scheck3_any x W (by rw [←q1.len];omega) (by rw [←q2.len];omega) (by rw [←q3.len];omega)))
         rw [hsa.out] at hct;clear hRd hRw hsa;obtain⟨p0,p1,p2,p3,p4,p5,p6⟩:=c_7 (B1.out.below h5.out);go_wp2_with fail;refine hct.out.mono ?_;rintro e w6 ⟨rfl,hb6⟩;clear p0 p1 p2 p3 p4 p5 p6 hct;have hU6:=h_ hup (b_ h5 hb6);clear hb6
         cases hv3:X.routes.all shapeB with
         |false=>
          have hv3H:=H_ hv3;clear hv3;go_wp2_with fail;go_returns;exact RetE.no (by decide) (sheetB_shp hv3H.out) hU6.out
         |true=>
          have hv3H:=H_ hv3;clear hv3;go_wp2_with fail;go_returns;exact RetE.yes (by unfold sheetB;rw [hyes.out,hvH.out,hv2H.out,hv3H.out];rfl) hU6.out
