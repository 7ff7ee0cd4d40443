/- Merged. -/
import Derived.Test.YtechdefolfboeaaGreatDoorPd15
set_option linter.unusedVariables false
set_option linter.unusedSimpArgs false
set_option maxRecDepth 100000
set_option maxHeartbeats 2000000
namespace Go.Proofs.YtechdefolfboeaaGreatDoor
open Go.RowKit B K
theorem j1_ (s:Str) (w:World) (h:Sp w):Calls Tryz.prog 165 #[.string s] w (rb_ (.bool (!aN_ s)) w):=by
 have j:=H_ (h3_ s w h);clear h;go_enter Tryz.func165,Tryz.ntmps165;go_wp2_with fail;refine j.o.mono ?_;rintro e w' ⟨rfl,g⟩;have f:=H_ g;clear g
 go_wp2
 go_returns;exact⟨rfl,f.o⟩
theorem j2_ (x:Int) (w:World):Calls Tryz.prog 169 #[.int .i64 x] w (rb_ (.bool (!decide (W.chk x=0))) w):=by
 have g:=H_ (aX_ x w);obtain⟨q,f⟩:=e_ (W.chk x);rw [f] at g ⊢;clear f;go_enter Tryz.func169,Tryz.ntmps169;go_wp2_with fail;refine g.o.mono ?_;rintro e w' ⟨rfl,rfl⟩
 go_wp2
 go_returns;exact⟨am_ (by by_cases h:q=0<;>simp [h]),Below.refl _ _⟩
def shpE (e:REl):Bool:=decide (2<=e.2.1.2.1)&&(decide (e.2.1.2.1<=32)&&(decide (e.2.2.1.2.1+1=e.2.1.2.1)&&decide (e.2.2.2.2.1+2=e.2.1.2.1)))
theorem j3_ (e:REl) (we:World) (hm:e.2.1.2.1<=1000000) (h2:e.2.2.1.2.1<=1000000) (h3:e.2.2.2.2.1<=1000000):Calls Tryz.prog 171 #[.agg (relE e).toArray] we fun r w'=>r= .returned (.bool (!shpE e))/\Below we.heap.size we w':=by
 obtain⟨D,⟨F,p,G⟩,⟨J,y,L⟩,⟨M,z,N⟩⟩:=e;simp only at hm h2 h3
 have P:Hd ((!shpE (⟨D,⟨F,p,G⟩,⟨J,y,L⟩,⟨M,z,N⟩⟩:REl))=(decide ((p:Int)<2)||(decide ((32:Int)<(p:Int))||(((y:Int) !=(p:Int)-1)||((z:Int) !=(p:Int)-2))))):=by
  show _=_;unfold shpE;rw [Bool.eq_iff_iff];simp only [Bool.not_eq_true',Bool.and_eq_false_iff,decide_eq_false_iff_not,Bool.or_eq_true,decide_eq_true_eq,bne_iff_ne];omega
 rw [P.o];simp only [relE,SlV.v];obtain⟨wa,ba,n,f,q,j⟩:=box1 we 177 [.string D,.slice F p G,.slice J y L,.slice M z N];have q1:=j.cell 1 rfl;have q2:=j.cell 2 rfl;have q3:=j.cell 3 rfl;have g:=H_ q;clear j q
 cases d1:decide ((p:Int)<2) with
 |true=>
  go_enter Tryz.func171,Tryz.ntmps171
  go_wp2
  clear n f;go_returns;exact⟨rfl,g.o⟩
 |false=>
  cases d2:decide ((32:Int)<(p:Int)) with
  |true=>
   go_enter Tryz.func171,Tryz.ntmps171
   go_wp2
   clear n f;go_returns;exact⟨rfl,g.o⟩
  |false=>
   cases d3:((y:Int) !=(p:Int)-1) with
   |true=>
    go_enter Tryz.func171,Tryz.ntmps171
    go_wp2
    clear n f;go_returns;exact⟨rfl,g.o⟩
   |false=>
    go_enter Tryz.func171,Tryz.ntmps171
    go_wp2
    clear n f;go_returns;exact⟨rfl,g.o⟩
theorem bD_.rows {w:World} {A:Option Addr} {n:Nat} {l:List bn_} (h:bD_ w A n l): ∃ L:List REl,Rd w 4 relE A n L/\aD_ (fun w e r=>e.1=r.name/\Rd w 1 strE e.2.1.1 e.2.1.2.1 r.stops/\Rd w 1 (numE .i64) e.2.2.1.1 e.2.2.1.2.1 r.rides/\Rd w 1 (numE .i64) e.2.2.2.1 e.2.2.2.2.1 r.stays) w L l:=by
 have N: ∀ k:Nat, ∃ e:REl, ∀ r,l[k]?=some r -> ∃ b o,A=some ⟨b,o,none⟩/\b<w.heap.size/\(∀ (j:Nat) u,(relE e)[j]?=some u ->w.cell? ⟨b,o+k*4+j,none⟩=some u)/\e.1=r.name/\Rd w 1 strE e.2.1.1 e.2.1.2.1 r.stops/\Rd w 1 (numE .i64) e.2.2.1.1 e.2.2.1.2.1 r.rides/\Rd w 1 (numE .i64) e.2.2.2.1 e.2.2.2.2.1 r.stays:=fun k=>by
  cases q:l[k]? with
  |none=>exact⟨(ByteArray.empty,(none,0,0),(none,0,0),(none,0,0)),fun r D=>by cases D⟩
  |some r=>
   obtain⟨b,o,e,F,X,⟨s1,n1,S,Y,r1,_⟩,⟨s2,n2,T,Z,r2,_⟩,⟨s3,n3,U,a,r3,_⟩⟩:=h.at_ k r q;refine⟨(r.name,(s1,n1,S),(s2,n2,T),(s3,n3,U)),fun r' J=>?_⟩;cases J;refine⟨b,o,e,F,fun j u g=>?_,rfl,r1,r2,r3⟩
   match j,g with
   |0,g=>simp [relE,SlV.v] at g;subst g;exact X
   |1,g=>simp [relE,SlV.v] at g;subst g;exact Y
   |2,g=>simp [relE,SlV.v] at g;subst g;exact Z
   |3,g=>simp [relE,SlV.v] at g;subst g;exact a
   |j+4,g=>simp [relE] at g
 obtain⟨f,G⟩:=Classical.axiomOfChoice N;have p:((List.range n).map f).length =n:=by simp
 have y: ∀ k e,((List.range n).map f)[k]?=some e ->k<n/\e=f k:=fun k e z=>by
  have q:k<n:=by have:=(List.getElem?_eq_some_iff.1 z).1;rwa [p] at this
  rw [List.getElem?_map,List.getElem?_range q] at z;exact⟨q,(Option.some.inj z).symm⟩
 have R: ∀ k,k<n -> ∃ r,l[k]?=some r:=fun k q=>⟨_,List.getElem?_eq_getElem (by rw [h.len];exact q)⟩
 refine⟨(List.range n).map f,⟨p,fun s=>?_⟩,⟨by rw [p,h.len],fun k e r z D=>?_⟩⟩
 ·obtain⟨r0,M⟩:=R 0 s;obtain⟨b,o,e,F,_⟩:=G 0 r0 M;refine⟨b,o,e,F,fun i x hx j u g=>?_⟩;obtain⟨Q,rfl⟩:=y i x hx;obtain⟨r,D⟩:=R i Q;obtain⟨b',o',P,_,c,_⟩:=G i r D;rw [e] at P;cases P;exact c j u g
 ·obtain⟨Q,rfl⟩:=y k e z;obtain⟨b,o,_,_,_,d⟩:=G k r D;exact d
theorem o9_ {w:World} {L:List REl} {l:List bn_} (h:aD_ (fun w e r=>e.1=r.name/\Rd w 1 strE e.2.1.1 e.2.1.2.1 r.stops/\Rd w 1 (numE .i64) e.2.2.1.1 e.2.2.1.2.1 r.rides/\Rd w 1 (numE .i64) e.2.2.2.1 e.2.2.2.2.1 r.stays) w L l):(L.any fun e=> !shpE e)= !l.all cX_:=by
 rw [de_]
 congr 1
 have n: ∀ k e r,L[k]?=some e ->l[k]?=some r ->shpE e=cX_ r:=fun k e r f q=>by
  obtain⟨_,y,z,D⟩:=h.at_ k e r f q;unfold shpE cX_;rw [y.len,z.len,D.len]
 rw [Bool.eq_iff_iff,List.all_eq_true,List.all_eq_true];constructor
 ·intro p r q;obtain⟨k,g⟩:=List.getElem?_of_mem q;obtain⟨e,f,_⟩:=h.get g;rw [<-n k e r f g];exact p e (List.mem_of_getElem? f)
 ·intro p e f;obtain⟨k,g⟩:=List.getElem?_of_mem f;have j:k<l.length:=by rw [<-h.len];exact(List.getElem?_eq_some_iff.1 g).1
  rw [n k e _ g (List.getElem?_eq_getElem j)];exact p _ (List.getElem_mem j)
theorem lt_ (X:ay_) (V:SV) (we:World) (hr:RS we X V) (hf:FewS X) (hsp:Sp we):Calls Tryz.prog 130 #[sVal X V] we (RetE we (bb_ aN_ X)):=by
 have aX:=H_ (fun(w:World) (h:RS w X V)=>lx_ X V w h hf);have aY:=H_ (fun(w:World) (h:RS w X V)=>m4_ X V w h hf);have aU:=H_ (fN_ hf);have aV:=H_ (gz_ hf);have aZ:=H_ hf.sr;have mR:X.routes.length<=100000:=hf.sR;obtain⟨a0,aP,aD,aR,aT,aH,N,R,P,D,S,Q,c0,cP,cD,cR,cT,cH⟩:=V
 have hL:cG_ X= !(decide (256<N)||(decide (1024<R)||(decide (256<P)||(decide (256<D)||(decide (1024<S)||decide (256<Q)))))):=by
  have h1:X.paths.length=R:=hr.rP.len;have h2:X.doors.length=P:=hr.rD.len;have h3:X.routes.length=D:=hr.rR.len;have h4:X.trips.length=S:=hr.rT.len;have h5:X.hazs.length=Q:=hr.rH.len;have h0:X.stops.length=N:=hr.r0.len;unfold cG_;rw [h0,h1,h2,h3,h4,h5,Bool.eq_iff_iff];simp only [Bool.and_eq_true,decide_eq_true_eq,Bool.not_eq_true',Bool.or_eq_false_iff,decide_eq_false_iff_not,Nat.not_lt]
 have bD:D<=100000:=by rw [<-show X.routes.length=D from hr.rR.len];exact mR
 simp only [sVal] at*;obtain⟨w1,b1,q,g,aS,p,B1,bA⟩:=cm_ we 136 [.int .i64 X.hz,.slice a0 N c0,.slice aP R cP,.slice aD P cD,.slice aR D cR,.slice aT S cT,.slice aH Q cH];have hR:=H_ (hr.below p.o);have hS:=H_ (hsp.below p.o);obtain⟨p0,p1,p2,p3,p4,p5,p6⟩:=c_7 B1;have B1:=H_ B1;rename_i gX;clear gX hr hf aS hsp mR;have f:=H_ hL;clear hL;by_cases e0:256<N
 ·have d0:decide ((256:Int)<(N:Int))=true:=T_ (by omega);have T:decide (256<N)=true:=T_ e0;have j:Hd (cG_ X=false):=by show _=_;rw [f.o];simp [e0]
  clear f;go_enter Tryz.func130,Tryz.ntmps130
  go_wp2
  clear q g;go_returns;exact RetE.no (by decide) (bB_ j.o) p.o
 ·have d0:decide ((256:Int)<(N:Int))=false:=F_ (by omega);have T:decide (256<N)=false:=F_ e0;by_cases e1:1024<R
  ·have d1:decide ((1024:Int)<(R:Int))=true:=T_ (by omega);have U:decide (1024<R)=true:=T_ e1;have j:Hd (cG_ X=false):=by show _=_;rw [f.o];simp [e1]
   clear f;go_enter Tryz.func130,Tryz.ntmps130
   go_wp2
   clear q g;go_returns;exact RetE.no (by decide) (bB_ j.o) p.o
  ·have d1:decide ((1024:Int)<(R:Int))=false:=F_ (by omega);have U:decide (1024<R)=false:=F_ e1;by_cases e2:256<P
   ·have d2:decide ((256:Int)<(P:Int))=true:=T_ (by omega);have Y:decide (256<P)=true:=T_ e2;have j:Hd (cG_ X=false):=by show _=_;rw [f.o];simp [e2]
    clear f;go_enter Tryz.func130,Tryz.ntmps130
    go_wp2
    clear q g;go_returns;exact RetE.no (by decide) (bB_ j.o) p.o
   ·have d2:decide ((256:Int)<(P:Int))=false:=F_ (by omega);have Y:decide (256<P)=false:=F_ e2;by_cases e3:256<D
    ·have d3:decide ((256:Int)<(D:Int))=true:=T_ (by omega);have Z:decide (256<D)=true:=T_ e3;have j:Hd (cG_ X=false):=by show _=_;rw [f.o];simp [e3]
     clear f;go_enter Tryz.func130,Tryz.ntmps130
     go_wp2
     clear q g;go_returns;exact RetE.no (by decide) (bB_ j.o) p.o
    ·have d3:decide ((256:Int)<(D:Int))=false:=F_ (by omega);have Z:decide (256<D)=false:=F_ e3;by_cases e4:1024<S
     ·have d4:decide ((1024:Int)<(S:Int))=true:=T_ (by omega);have a:decide (1024<S)=true:=T_ e4;have j:Hd (cG_ X=false):=by show _=_;rw [f.o];simp [e4]
      clear f;go_enter Tryz.func130,Tryz.ntmps130
      go_wp2
      clear q g;go_returns;exact RetE.no (by decide) (bB_ j.o) p.o
     ·have d4:decide ((1024:Int)<(S:Int))=false:=F_ (by omega);have a:decide (1024<S)=false:=F_ e4;by_cases e5:256<Q
      ·have d5:decide ((256:Int)<(Q:Int))=true:=T_ (by omega);have b:decide (256<Q)=true:=T_ e5;have j:Hd (cG_ X=false):=by show _=_;rw [f.o];simp [e5]
       clear f;go_enter Tryz.func130,Tryz.ntmps130
       go_wp2
       clear q g;go_returns;exact RetE.no (by decide) (bB_ j.o) p.o
      ·have d5:decide ((256:Int)<(Q:Int))=false:=F_ (by omega);have b:decide (256<Q)=false:=F_ e5;have aN:Hd (cG_ X=true):=by show _=_;rw [f.o,T,U,Y,Z,a,b];rfl
       clear f T U Y Z a b;go_enter Tryz.func130,Tryz.ntmps130;go_wp2_with fail;refine(aX.o w1 hR.o).mono ?_;rintro e w2 ⟨A,n,c,rfl,rd,bE,hc,d⟩;clear q g d0 d1 d2 d3 d4 d5 p0 p1 p2 p3 p4 p5 p6;have aE:=H_ d;have aW:n<=1099511627776:=by have:=rd.len;have:=aU.o;omega
       have F:=H_ rd;have aB:=H_ (hS.o.below d);clear rd d;go_wp2_with fail;refine(nq_ 165 #[] (enters_of Tryz.func165 (by kernel_rfl) rfl) (fun s=> !aN_ s) A n c (aT_ X) w2 F.o aW (fun W x hb _=>j1_ x W (aB.o.below hb))).mono ?_;rintro e w3 ⟨rfl,aF⟩;have h3:=h_ aE aF;clear aF aB F;rw [de_];have aO:=h_ p h3.o
       cases hv:(aT_ X).all aN_ with
       |false=>
        have r:=H_ hv;clear hv
        go_wp2
        go_returns;exact RetE.no (by decide) (hl_ r.o) aO.o
       |true=>
        have r:=H_ hv;clear hv;obtain⟨p0,p1,p2,p3,p4,p5,p6⟩:=c_7 (B1.o.below h3.o);go_wp2_with fail;refine(aY.o w3 (hR.o.below h3.o)).mono ?_;rintro e w4 ⟨A4,n4,c4,rfl,rd,bB,bC,aG⟩;clear p0 p1 p2 p3 p4 p5 p6;have h4:=h_ h3 aG;have aL:n4<=1099511627776:=by have:=rd.len;have:=aV.o;omega
        have F:=H_ rd;clear rd aG;go_wp2_with fail;refine(nn_ 169 #[] (enters_of Tryz.func169 (by kernel_rfl) rfl) (fun x=> !decide (W.chk x=0)) A4 n4 c4 (aU_ X) w4 F.o aL (fun W x _ _=>j2_ x W)).mono ?_;rintro e w5 ⟨rfl,aI⟩;have h5:=h_ h4 aI;clear aI F;rw [de_];have aQ:=h_ p h5.o
        cases J:(aU_ X).all (fun x=>decide (W.chk x=0)) with
        |false=>
         have y:=H_ J;clear J
         go_wp2
         go_returns;exact RetE.no (by decide) (hm_ y.o) aQ.o
        |true=>
         have y:=H_ J;clear J;obtain⟨L,aA,G⟩:=((hR.o.below h5.o).rR).rows;have aM:=H_ (o9_ G)
         have i:=H_ (l4_ 171 #[] (enters_of Tryz.func171 (by kernel_rfl) rfl) (fun e=> !shpE e) aR D cR L w5 aA (by omega) (fun W x _ hx=>by
          obtain⟨k,hk⟩:=List.getElem?_of_mem hx;have aK:k<X.routes.length:=by rw [<-G.len];exact(List.getElem?_eq_some_iff.1 hk).1
          obtain⟨_,q1,q2,q3⟩:=G.at_ k x _ hk (List.getElem?_eq_getElem aK);obtain⟨m1,m2,m3⟩:=aZ.o _ (List.getElem_mem aK);exact j3_ x W (by rw [<-q1.len];omega) (by rw [<-q2.len];omega) (by rw [<-q3.len];omega)))
         rw [aM.o] at i;clear aA G aM;obtain⟨p0,p1,p2,p3,p4,p5,p6⟩:=c_7 (B1.o.below h5.o);go_wp2_with fail;refine i.o.mono ?_;rintro e w6 ⟨rfl,aJ⟩;clear p0 p1 p2 p3 p4 p5 p6 i;have aC:=h_ p (b_ h5 aJ);clear aJ
         cases M:X.routes.all cX_ with
         |false=>
          have z:=H_ M;clear M
          go_wp2
          go_returns;exact RetE.no (by decide) (dN_ z.o) aC.o
         |true=>
          have z:=H_ M;clear M
          go_wp2
          go_returns;exact RetE.yes (by unfold bb_;rw [aN.o,r.o,y.o,z.o];rfl) aC.o
