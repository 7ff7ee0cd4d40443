/- Merged. -/
import Derived.Test.YtechdefolfboeaaGreatDoorPd47
import Derived.Test.YtechdefolfboeaaGreatDoorPd48
import Derived.Test.YtechdefolfboeaaGreatDoorPd51
set_option linter.unusedVariables false
set_option linter.unusedSimpArgs false
set_option maxRecDepth 100000
set_option maxHeartbeats 8000000
namespace Go.Proofs.YtechdefolfboeaaGreatDoor
open Go.RowKit B K
theorem fZ_ {P:Program} (N p k p2 k2:Nat) (m ts:List Nat) {id:Nat} {a:Act} {w:World} {l:List Oper} {Q:Exit ->Act ->World ->Prop} (hm:P.follows .mixedOrders =true) (hB:iA_ l m ts=true) (htl:k8_ m l ts=rotT p k (rotT p2 k2 (aV_ m l))) (hN':N<=w.heap.size)
 (h: ∀ C:World ->Prop,(C=fun w'=>Below N w w') ->wpQuiet P l.toArray C (fun a1=> ∀ C':World ->Prop,(C'=fun _=>True) ->wpQuiet P l.toArray C' (fun a'=> ∀ w',w'={w with drawn:=w.drawn+1} ->
   aW_ P l.toArray (fun w'=>Below N w w') (Exit.then (fun a w=>Q .normal a w) (fun _ _ _=>False)) (rotT p k (rotT p2 k2 (aV_ m l))) a' w') (af_ 1 m l) a1) (af_ 0 m l) a):(Code.region id l.toArray true).wp P Q a w:=
 hv_ N m ts _ hm hB htl hN' h
theorem jI_ (we:World) (hsp:Sp we):Calls Tryz.prog 37 #[] we (rb_ (.bool true) we):=by
 have aT:=H_ hsp;clear hsp;go_enter Tryz.func37,Tryz.ntmps37;go_wp2_with fail;refine(kd_ we).mono ?_;rintro e w1 ⟨V,rfl,hW,aC⟩;have aB:=H_ hW;have a:=H_ aC;clear hW aC;go_wp2_with fail;refine(fn_ w1).mono ?_;rintro e w2 ⟨b,rfl,Z,d⟩;have q:=h_ a d;have k:=H_ (g6_ 100000 (m7_ 100000 (Nat.le_refl _)) M0 V (some ⟨b,0,none⟩) 2 2 L0 w2 (aB.o.below d) few0 (aT.o.below q.o) Z (by decide) (by decide));rw [pR_,err0] at k;clear Z d;go_wp2_with fail;refine k.o.mono ?_;rintro e w3 ⟨A3,c3,rfl,r3,aP,aQ,aD⟩;have aE:=h_ q aD;have s:Hd (bm_ w3 A3 2 P0):=r3;have aO:P0.length=2:=rfl;clear k r3 aD a q aP aQ;obtain⟨bp,op,p,A0,n0,m0,aN,n,hp,g0,g1,r0,aR⟩:=s.o.get (show 0<2 by decide);obtain rfl:(⟨0,[0]⟩:PatP)=p:=Option.some.inj hp;obtain⟨aM,aU,p',A1,n1,m1,Y,aG,aH,g2,g3,r1,aS⟩:=s.o.get (show 1<2 by decide);obtain rfl:(⟨0,[1]⟩:PatP)=p':=Option.some.inj aH;subst aN;obtain⟨rfl,rfl⟩:bp=aM/\op=aU:=by simpa using Y
 obtain rfl:n0=1:=r0.len.symm;obtain rfl:n1=1:=r1.len.symm;have r:=H_ r0;have aX:=H_ r1;simp only [Nat.zero_mul,Nat.one_mul,Nat.add_zero,Nat.reduceAdd] at g0 g1 g2 g3;have g3:w3.cell? ⟨bp,op+3,none⟩=some (.slice A1 1 m1):=g3;have cw:Hd (Below w3.heap.size w3 w3):=Below.refl _ _;clear r0 r1 aR aS hp aH Y g2 aG s aB;simp only [aO]
 go_wp2
 refine fZ_ w3.heap.size 20 3 12 3 (0::0::0::0::0::0::0::0::0::0::0::0::3::3::4::4::4::4::4::5::3::3::4::4::3::4::4::5::3::4::4::4::3::4::4::5::3::4::4::4::[]) (12::13::14::15::16::17::18::19::20::21::22::23::25::26::27::24::28::29::30::31::33::34::35::32::36::37::38::39::[]) (by kernel_rfl) (by kernel_rfl) (by kernel_rfl) (Nat.le_refl _) ?_;intro C hC;simp only [af_,aV_,rotT,insT,Nat.reduceLeDiff,Nat.reduceEqDiff, ↓reduceIte]
 repeat(go_big_quiet_step (first
  |(intro _;with_reducible rfl)
  |(intro T;simp only [c_ T n g1,Result.andThen];exact⟨trivial,rfl⟩)))
 clear hC;intro g f;clear f;intro wq aF;have cq:Hd (Below w3.heap.size w3 wq):=by rw [aF];exact⟨rfl,rfl,rfl,Nat.le_refl _,fun _ _=>rfl⟩
 clear aF;obtain⟨w12,aK,aI,c,y,U⟩:=box1 wq 3 [.int .i64 0];have L:Hd (Below w3.heap.size w3 w12):=b_ cq y;have D:=H_ (gS_ A0 1 m0 [0] (some ⟨aK,0,none⟩) 1 1 [0] w12 (r.o.below L.o) (Rd.of_bx (enc:=numE .i64) (l:=[0]) aj_ U) (by decide) (by decide));rw [T_ rfl] at D;clear y U cq;refine cj_ (by decide) (by decide) ?_;go_wp2_with fail;refine⟨fun _=>L.o,?_⟩;clear aI c;refine cj_ (by decide) (by decide) ?_;go_wp2_with fail;refine(D.o).mono ?_;rintro e w13 ⟨rfl,j⟩;have M:Hd (Below w3.heap.size w3 w13):=b_ L j;clear j L D;go_wp2_with fail;refine⟨fun _=>M.o,?_⟩;refine aF_ ?_;intro g f
 repeat(go_big_quiet_step (first|(intro _;with_reducible rfl)))
 refine wpQuiet_nil ?_;clear f;refine aF_ ?_;intro g f
 repeat(go_big_quiet_step (first|(intro _;with_reducible rfl)))
 refine wpQuiet_nil ?_;clear f;refine aF_ ?_;intro g f
 repeat(go_big_quiet_step (first|(intro _;with_reducible rfl)))
 refine wpQuiet_nil ?_;clear f;refine aF_ ?_;intro g f
 repeat(go_big_quiet_step (first|(intro _;with_reducible rfl)))
 refine wpQuiet_nil ?_;clear f;refine aF_ ?_;intro g f
 repeat(go_big_quiet_step (first|(intro _;with_reducible rfl)))
 refine wpQuiet_nil ?_;clear f;refine ew_ M.o ?_;intro g f
 repeat(go_big_quiet_step (first
  |(intro _;with_reducible rfl)
  |(intro T;simp only [c_ T n g3,Result.andThen];exact⟨trivial,rfl⟩)))
 refine wpQuiet_nil ?_;clear f;obtain⟨w20,aL,aJ,i,z,X⟩:=box1 w13 3 [.int .i64 1];have N:Hd (Below w3.heap.size w3 w20):=b_ M z;have F:=H_ (gS_ A1 1 m1 [1] (some ⟨aL,0,none⟩) 1 1 [1] w20 (aX.o.below N.o) (Rd.of_bx (enc:=numE .i64) (l:=[1]) aj_ X) (by decide) (by decide));rw [T_ rfl] at F;clear z X M;refine cj_ (by decide) (by decide) ?_;go_wp2_with fail;refine⟨fun _=>N.o,?_⟩;clear aJ i;refine cj_ (by decide) (by decide) ?_;go_wp2_with fail;refine(F.o).mono ?_;rintro e w21 ⟨rfl,j⟩;have P:Hd (Below w3.heap.size w3 w21):=b_ N j;clear j N F;go_wp2_with fail;refine⟨fun _=>P.o,?_⟩;refine aF_ ?_;intro g f
 repeat(go_big_quiet_step (first|(intro _;with_reducible rfl)))
 refine wpQuiet_nil ?_;clear f;refine aF_ ?_;intro g f
 repeat(go_big_quiet_step (first|(intro _;with_reducible rfl)))
 refine wpQuiet_nil ?_;clear f;refine aF_ ?_;intro g f
 repeat(go_big_quiet_step (first|(intro _;with_reducible rfl)))
 refine wpQuiet_nil ?_;clear f;refine aF_ ?_;intro g f
 repeat(go_big_quiet_step (first|(intro _;with_reducible rfl)))
 refine wpQuiet_nil ?_;clear f;refine ew_ P.o ?_;intro g f
 repeat(go_big_quiet_step (first
  |(intro _;with_reducible rfl)
  |(intro T;simp only [c_ T n g0,c_ T n g1,Result.andThen];exact⟨trivial,rfl⟩)))
 refine wpQuiet_nil ?_;clear f;refine cj_ (by decide) (by decide) ?_;go_wp2_with fail;refine(fn_ w21).mono ?_;rintro e w24 ⟨aV,rfl,Z,j⟩;have Q:Hd (Below w3.heap.size w3 w24):=b_ P j;have G:=H_ (dq_ (some ⟨aV,0,none⟩) A0 2 2 1 m0 0 1 9 L0 [0] w24 Z (by decide) (r.o.below Q.o) (by decide) kh_);rw [cat0] at G;clear j Z P;go_wp2_with fail;refine⟨fun _=>Q.o,?_⟩;refine cj_ (by decide) (by decide) ?_;go_wp2_with fail;refine(G.o).mono ?_;rintro e w28 ⟨rfl,j⟩;have R:Hd (Below w3.heap.size w3 w28):=b_ Q j;clear j Q G;go_wp2_with fail;refine⟨fun _=>R.o,?_⟩;refine aF_ ?_;intro g f
 repeat(go_big_quiet_step (first|(intro _;with_reducible rfl)))
 refine wpQuiet_nil ?_;clear f;refine aF_ ?_;intro g f
 repeat(go_big_quiet_step (first|(intro _;with_reducible rfl)))
 refine wpQuiet_nil ?_;clear f;refine aF_ ?_;intro g f
 repeat(go_big_quiet_step (first|(intro _;with_reducible rfl)))
 refine wpQuiet_nil ?_;clear f;refine aF_ ?_;intro g f
 repeat(go_big_quiet_step (first|(intro _;with_reducible rfl)))
 refine wpQuiet_nil ?_;clear f;refine aF_ ?_;intro g f
 repeat(go_big_quiet_step (first|(intro _;with_reducible rfl)))
 refine wpQuiet_nil ?_;clear f;refine ew_ R.o ?_;intro g f
 repeat(go_big_quiet_step (first
  |(intro _;with_reducible rfl)
  |(intro T;simp only [c_ T n g0,c_ T n g1,Result.andThen];exact⟨trivial,rfl⟩)))
 refine wpQuiet_nil ?_;clear f;refine cj_ (by decide) (by decide) ?_;go_wp2_with fail;refine(fn_ w28).mono ?_;rintro e w32 ⟨aW,rfl,Z,j⟩;have S:Hd (Below w3.heap.size w3 w32):=b_ R j;have J:=H_ (dq_ (some ⟨aW,0,none⟩) A0 2 2 1 m0 0 1 10 L0 [0] w32 Z (by decide) (r.o.below S.o) (by decide) kh_);rw [cat1] at J;clear j Z R;go_wp2_with fail;refine⟨fun _=>S.o,?_⟩;refine cj_ (by decide) (by decide) ?_;go_wp2_with fail;refine(J.o).mono ?_;rintro e w36 ⟨rfl,j⟩;have aA:Hd (Below w3.heap.size w3 w36):=b_ S j;clear j S J;go_wp2_with fail;refine⟨fun _=>aA.o,?_⟩;refine aF_ ?_;intro g f
 repeat(go_big_quiet_step (first|(intro _;with_reducible rfl)))
 refine wpQuiet_nil ?_;clear f;refine aF_ ?_;intro g f
 repeat(go_big_quiet_step (first|(intro _;with_reducible rfl)))
 refine wpQuiet_nil ?_;clear f;refine aF_ ?_;intro g f
 repeat(go_big_quiet_step (first|(intro _;with_reducible rfl)))
 refine wpQuiet_nil ?_;clear f;refine ev_ _ _ _ (by simp) ?_;simp only [List.map_nil]
 go_wp2
 go_returns;exact⟨rfl,(b_ aE aA.o)⟩
def er_ (P:List PatP):Bool:=decide (P.length<=60)&&P.all fun p=>decide (p.runs.length<=60)
theorem jH_ (A:Option Addr) (n c:Nat) (P:List PatP) (we:World) (hP:bm_ we A n P):Calls Tryz.prog 48 #[.slice A n c] we fun e w'=>e= .returned (.bool (er_ P))/\w'=we:=by
 have g:=H_ hP.len;have D:=H_ hP;clear hP;by_cases R:n<=60
 ·have S:decide ((n:Int)>60)=false:=F_ (by omega);have j:Hd (er_ P=P.all fun p=>decide (p.runs.length<=60)):=by show _=_;unfold er_;rw [g.o,T_ R,Bool.true_and]
  rw [j.o];go_enter Tryz.func48,Tryz.ntmps48
  go_wp2
  go_loop [3] (fun L=> ∃ i:Nat,i<=n/\L= .int .i64 i/\Hd ((P.take i).all (fun p=>decide (p.runs.length<=60))=true)) (fun L=>n-(intOf L).toNat)
  ·exact⟨0,Nat.zero_le _,rfl,rfl⟩
  ·obtain⟨i,hi,rfl,f⟩:=hrel;by_cases F:i<n
   ·have aA:(i:Int)<(n:Int):=by omega
    obtain⟨b,o,p,A1,M,c1,rfl,aB,y,g0,g1,N,_,_⟩:=D.o.get F;have z:=N.len;by_cases Q:M<=60
    ·have T:decide ((M:Int)>60)=false:=F_ (by omega);have J:Hd ((P.take (i+1)).all (fun p=>decide (p.runs.length<=60))=true):=br_ f.o y (by rw [z];simp [Q]);clear f y z N
     go_wp2
     go_round
     ·exact⟨i+1,by omega,by go_num,J⟩
     ·simp [intOf];omega
    ·have T:decide ((M:Int)>60)=true:=T_ (by omega);have G:Hd ((P.all fun p=>decide (p.runs.length<=60))=false):=dv_ y (by rw [z];simp [Q]);clear f y z N
     go_wp2
     go_returns;exact⟨by rw [G.o];rfl,rfl⟩
   ·have q:Hd ((P.all fun p=>decide (p.runs.length<=60))=true):=by
     have h:=f.o
     rwa [List.take_of_length_le (by rw [g.o];omega)] at h
    clear f
    go_wp2
    go_returns;exact⟨by rw [q.o];rfl,rfl⟩
 ·have S:decide ((n:Int)>60)=true:=T_ (by omega);have j:Hd (er_ P=false):=by show _=_;unfold er_;rw [g.o,F_ R,Bool.false_and]
  rw [j.o];go_enter Tryz.func48,Tryz.ntmps48
  go_wp2
  go_returns;exact⟨rfl,rfl⟩
theorem oi_ {M:ab_} {L:List RunP} (hn:L.length<=60):(resP M L).length <=100000/\ ∀ p∈resP M L,p.runs.length<=100000:=by
 have h: ¬ 16384<L.length:=by omega
 exact⟨by have:=oj_ (M:=M) h;omega,fun p f=>by have:=lp_ (M:=M) h f;omega⟩
theorem jx_ (M:ab_) (V:WV) (A:Option Addr) (n c:Nat) (L:List RunP) (Ap:Option Addr) (m cp:Nat) (P:List PatP) (pos t run:Int) (we:World) (hsp:Sp we) (hr:RW we M V) (hwf:WfM M) (hL:be_ we A n L) (hP:bm_ we Ap m P):
 Calls Tryz.prog 12 #[wVal M V,.slice A n c,.slice Ap m cp,.int .i64 pos,.int .i64 t,.int .i64 run] we (rb_ (.bool true) we):=by
 have T:=H_ hP;clear hP;have eA:=H_ (fun w (h:RW w M V)=>nN_ M V w h hwf);have eB:=H_ (fun w h=>kR_ A n c L w h);have dD:=H_ (fun w (h:RW w M V) hf=>i6_ M V w h hf);have dF:=H_ (fun w (h:RW w M V) hf h3 hn=>jW_ M V A n c L w h hf h3 hn);have cB:=H_ (fun w A2 m2 c2 P2 (h:RW w M V) hf hs h3 hn hl hP hm hp=>jR_ M V A n c L A2 m2 c2 P2 w h hf hs h3 hn hl hP hm hp);have cC:=H_ (fun w A2 m2 c2 P2 (h:RW w M V) hf h3 hn hl hP hm hp=>lm_ M V A n c L A2 m2 c2 P2 w h hf h3 hn hl hP hm hp);have aF:=H_ hr;have bH:=H_ hsp;have y:=H_ hL;obtain⟨w1,b1,eF,cY,dX,dH,B1,eI⟩:=eW we 31 M V;obtain⟨a0,a1,a2,a3,a4,a5,aP,aD,aR,aT,aH,n0,n1,n2,n3,n4,n5,nP,nD,nR,nT,nH,c0,c1,c2,c3,c4,c5,cP,cD,cR,cT,cH⟩:=V;simp only [wVal] at*;have bA:=H_ B1;have l1:=B1.lt;clear B1 dX hr hsp hL hwf;go_enter Tryz.func12,Tryz.ntmps12;go_wp2_with fail;refine(jI_ w1 (bH.o.below dH.o)).mono ?_;rintro e w2 ⟨rfl,bE⟩;have bJ:=h_ dH bE
 have dT:=H_ bE;obtain⟨y0,y1,y2,y3,y4,y5,y6,y7,y8,y9,aA,aB⟩:=d_12 bE l1 bA.o;clear bE;go_wp2_with fail;clear eF cY;refine(eA.o w2 (aF.o.below bJ.o)).mono ?_;rintro e w3 ⟨rfl,bS⟩;have aL:=h_ bJ bS;have dU:=h_ dT bS;clear bS y0 y1 y2 y3 y4 y5 y6 y7 y8 y9 aA aB
 cases cA:fewB M with
 |false=>
  clear cA
  go_wp2
  go_returns;exact⟨rfl,aL.o⟩
 |true=>
  have S:=H_ (pn_ cA);clear cA;go_wp2_with fail;refine(eB.o w3 (y.o.below aL.o)).mono ?_;rintro e w4 ⟨rfl,bT⟩;have X:=h_ aL bT;have cN:=h_ dU bT;clear bT
  cases aW:dp_ L with
  |false=>
   clear aW
   go_wp2
   go_returns;exact⟨rfl,X.o⟩
  |true=>
   have bG:=H_ aW;have dC:n<=60:=by have:=h2_ aW;have:=y.o.len;omega
   have eN:Hd (¬ 16384<L.length):=by have:=h2_ aW;show ¬ _;omega
   clear aW;obtain⟨y0,y1,y2,y3,y4,y5,y6,y7,y8,y9,aA,aB⟩:=d_12 cN.o l1 bA.o;go_wp2_with fail;refine(jH_ Ap m cp P w4 (T.o.below X.o)).mono ?_;rintro e w5 ⟨rfl,rfl⟩
   cases aI:er_ P with
   |false=>
    clear aI
    go_wp2
    go_returns;exact⟨rfl,X.o⟩
   |true=>
    have bN:P.length<=60/\ ∀ p∈P,p.runs.length<=60:=by
     unfold er_ at aI;rw [Bool.and_eq_true,decide_eq_true_eq,List.all_eq_true] at aI;exact⟨aI.1,fun p hp=>of_decide_eq_true (aI.2 p hp)⟩
    have eJ:m<=60:=by have:=T.o.len;omega
    have d:Hd (∀ p∈P,p.runs.length<=100000):=fun p hp=>by have:=bN.2 p hp;omega
    have dA:=H_ (kU_ bG.o);have dV:Hd (L.length<=60):=by show _<=_;rw [y.o.len];exact dC
    have aC:Hd (∀ r∈L,r.arr.length<=100000/\r.dep.length<=100000):=fun r hr=>by have:=dA.o r hr;omega
    clear aI bN;go_wp2_with fail;refine(dD.o w5 (aF.o.below X.o) S.o).mono ?_;rintro e w6 ⟨V6,rfl,cW,bU⟩;have aM:=h_ X bU;have cO:=h_ cN bU;have bI:=H_ cW;clear cW bU y0 y1 y2 y3 y4 y5 y6 y7 y8 y9 aA aB dD;go_wp2_with fail;refine(jQ_ A n c L w6 (y.o.below aM.o) (by omega) aC.o).mono ?_;rintro e w7 ⟨v7,rfl,ho,bF⟩;obtain⟨A7,c7,rfl,r7,_,_⟩:=ho.rd;rw [y.o.len] at r7;have dB:L.length=n:=y.o.len;simp only [dB];have aN:=h_ aM bF;have cQ:=h_ cO bF;have cE:=H_ (g6_ 100000 (m7_ 100000 (Nat.le_refl _)) M V6 A7 n c7 L w7 (bI.o.below bF) S.o (bH.o.below aN.o) r7 (by omega) (by omega));have aZ:=H_ (fun w (h:Below we.heap.size we w)=>dF.o w (aF.o.below h) S.o (y.o.below h) (by omega));have z:=H_ (oi_ (M:=M) dV.o);obtain⟨R,hR⟩:=e_ (resP M L);obtain⟨ec,cZ⟩:=e_ (errC M L);rw [hR,cZ] at cE aZ;rw [hR] at z;clear bF ho r7 dB hR cZ bI dF aM cO;go_wp2_with fail
    refine cE.o.mono ?_;rintro e w8 ⟨A8,c8,rfl,r8,dY,eC,bV⟩;have aO:=h_ aN bV;have bB:=h_ cQ bV;have dK:=H_ r8;clear r8 bV cE aN cQ dY eC;have eL:=Nat.lt_of_lt_of_le l1 bB.o.size;obtain⟨y0,y1,y2,y3,y4,y5,y6,y7,y8,y9,aA,aB⟩:=d_12 bB.o l1 bA.o;go_wp2_with fail;refine(aZ.o w8 aO.o).mono ?_;rintro e w9 ⟨A9,c9,rfl,r9,dZ,eD,j⟩;have aQ:=h_ aO j;have cS:=h_ bB j;have dJ:=H_ (dK.o.below j);have dM:=H_ r9;clear dK r9 j aZ aO bB dZ eD y0 y1 y2 y3 y4 y5 y6 y7 y8 y9 aA aB;have cF:=H_ (fun w (h:Below we.heap.size we w)=>oa_ Ap m cp P run w (T.o.below h) (by omega) d.o);have cG:=H_ (fun w (h:Below we.heap.size we w)=>o2_ Ap m cp P run w (T.o.below h) (by omega) d.o);obtain⟨o1,bO⟩:=e_ ((ofP P run).1);obtain⟨o2,bP⟩:=e_ ((ofP P run).2);rw [bO,bP] at cF cG;clear bO bP;go_wp2_with fail;refine(cF.o w9 aQ.o).mono ?_;rintro e wa ⟨rfl,aS⟩;have aU:=h_ aQ aS;have cU:=h_ cS aS;have dL:=H_ (dJ.o.below aS)
    have dO:=H_ (dM.o.below aS);clear aS dJ dM aQ cS cF;go_wp2_with fail;refine(cG.o wa aU.o).mono ?_;rintro e wb ⟨rfl,aV⟩;have J:=h_ aU aV;have bR:=h_ cU aV;have cI:=H_ (dL.o.below aV);have aK:=H_ (dO.o.below aV);clear aV dL dO aU cU cG;have q:=Nat.lt_of_lt_of_le l1 bR.o.size;obtain⟨y0,y1,y2,y3,y4,y5,y6,y7,y8,y9,aA,aB⟩:=d_12 bR.o l1 bA.o;have s1:=H_ (fun U (h:Below wb.heap.size wb U)=>ie_ A8 R.length c8 R A9 R.length c9 R U (cI.o.below h) (aK.o.below h) z.o.1 z.o.1 z.o.2 z.o.2);have s2:=H_ (fun U (h:Below we.heap.size we U)=>cB.o U Ap m cp P (aF.o.below h) S.o (bH.o.below h) (y.o.below h) (by omega) aC.o (T.o.below h) (by omega) d.o);have s3:=H_ (fun U (h:Below we.heap.size we U)=>cC.o U Ap m cp P (aF.o.below h) S.o (y.o.below h) (by omega) aC.o (T.o.below h) (by omega) d.o)
    have s4:=H_ (fun U (h:Below we.heap.size we U) (k:Below wb.heap.size wb U)=>cB.o U A9 R.length c9 R (aF.o.below h) S.o (bH.o.below h) (y.o.below h) (by omega) aC.o (aK.o.below k) z.o.1 z.o.2);have s5:=H_ (fun U (h:Below we.heap.size we U) (k:Below wb.heap.size wb U)=>cC.o U A9 R.length c9 R (aF.o.below h) S.o (y.o.below h) (by omega) aC.o (aK.o.below k) z.o.1 z.o.2);have s6:=H_ (fun U (h:Below we.heap.size we U) (k:Below wb.heap.size wb U)=>k5_ A8 R.length c8 R Ap m cp P U (cI.o.below k) (T.o.below h) z.o.1 (by omega) z.o.2 d.o);have s7:=H_ (fun U (h:Below we.heap.size we U) (k:Below wb.heap.size wb U)=>ie_ A9 R.length c9 R Ap m cp P U (aK.o.below k) (T.o.below h) z.o.1 (by omega) z.o.2 d.o);rw [T_ rfl] at s1;obtain⟨k1,bK⟩:=e_ (chkP M L P);obtain⟨k2,bM⟩:=e_ (chkP M L R);obtain⟨sv,dG⟩:=e_ (decide (R=P));rw [bK] at s2 s3;rw [bM] at s4 s5;rw [dG] at s6 s7;have z1:(ec !=ec)=false:=by simp
    have z2:(o1 !=o1)=false:=by simp
    have z3:(o2 !=o2)=false:=by simp
    have z4:(k1 !=k1)=false:=by simp
    have z5:(k2 !=k2)=false:=by simp
    have z6:(sv !=sv)=false:=by cases sv<;>rfl
    clear bK bM dG cB cC
    go_wp2
    refine wb_ wb.heap.size ?_;intro C hC
    repeat(go_big_quiet_step (first
     |((intro _;with_reducible rfl))
     |(intro g;have f:=b_ J g;simp only [c_ g q y0,c_ g q y1,c_ g q y2,c_ g q y3,c_ g q y4,c_ g q y5,c_ g q y6,c_ g q y7,c_ g q y8,c_ g q y9,c_ g q aA,c_ g q aB,Result.andThen];exact⟨trivial,rfl⟩)
     |(intro g;have f:=b_ J g;(with_reducible refine(s1.o _ g).mono ?_);rintro e G ⟨rfl,F⟩;exact⟨rfl,u_ g F⟩)
     |(intro g;have f:=b_ J g;(with_reducible refine(s2.o _ f).mono ?_);rintro e G ⟨rfl,F⟩;exact⟨rfl,u_ g F⟩)
     |(intro g;have f:=b_ J g;(with_reducible refine(s3.o _ f).mono ?_);rintro e G ⟨rfl,F⟩;exact⟨rfl,u_ g F⟩)
     |(intro g;have f:=b_ J g;(with_reducible refine(s4.o _ f g).mono ?_);rintro e G ⟨rfl,F⟩;exact⟨rfl,u_ g F⟩)
     |(intro g;have f:=b_ J g;(with_reducible refine(s5.o _ f g).mono ?_);rintro e G ⟨rfl,F⟩;exact⟨rfl,u_ g F⟩)
     |(intro g;have f:=b_ J g;(with_reducible refine(s6.o _ f g).mono ?_);rintro e G ⟨rfl,F⟩;exact⟨rfl,u_ g F⟩)
     |(intro g;have f:=b_ J g;(with_reducible refine(s7.o _ f g).mono ?_);rintro e G ⟨rfl,F⟩;exact⟨rfl,u_ g F⟩)))
    intro w9 j;clear hC;have hd:=H_ j;have N:=h_ J j;have dP:=H_ (aK.o.below j);clear j s1 s2 s3 s4 s5 s6 s7 z1 z2 z3 z4 z5 z6 y0 y1 y2 y3 y4 y5 y6 y7 y8 y9 aA aB J bR cI aK q;have aG:Hd (∀ r∈L,r.dep.length<=100000):=fun r hr=>(aC.o r hr).2;go_upto_region 11 with fail;go_cut [153] (fun v wx=>v= .bool false/\Hd (Below w9.heap.size w9 wx))
    ·have eM:Hd (Below w9.heap.size w9 w9):=Below.refl _ _;by_cases aJ:1<n
     ·have d1:decide (1<n)=true:=T_ aJ;have dS:decide ((1:Int)<(n:Int))=true:=T_ (by omega);have eP:(0:Int)<(n:Int):=by omega
      have eQ:(1:Int)<(n:Int):=by omega
      obtain⟨bL,oL,ra,A1,n1,c1,A2,n2,c2,rfl,D,dE,t0,t1,t2,t3,cJ,cK,bW,bX⟩:=y.o.get (show 0<n by omega);obtain⟨dR,eH,rb,A3,n3,c3,A4,n4,c4,cV,_,eE,u0,u1,u2,u3,cL,cM,bY,bZ⟩:=y.o.get aJ;obtain⟨rfl,rfl⟩:bL=dR/\oL=eH:=by simpa using cV
      have e1:=aC.o ra (List.mem_of_getElem? dE);have bC:=H_ (fun w (h:Below we.heap.size we w)=>fi_ (ra.trip,ra.no,(A1,n1,c1),(A2,n2,c2)) (rb.trip,rb.no,(A3,n3,c3),(A4,n4,c4)) ra rb w ⟨rfl,rfl,cJ.below h,bW,cK.below h,bX⟩ ⟨rfl,rfl,cL.below h,bY,cM.below h,bZ⟩ (by omega) (by omega));have bD:=H_ (fun w (h:Below we.heap.size we w)=>fl_ (ra.trip,ra.no,(A1,n1,c1),(A2,n2,c2)) (rb.trip,rb.no,(A3,n3,c3),(A4,n4,c4)) ra rb w ⟨rfl,rfl,cJ.below h,bW,cK.below h,bX⟩ ⟨rfl,rfl,cL.below h,bY,cM.below h,bZ⟩ (by omega) (by omega));simp only [rnE,SlV.v] at bC bD;obtain⟨av,cX⟩:=e_ (aE_ ra rb);rw [cX] at bC bD;have zv:(av !=av)=false:=by cases av<;>rfl
      simp only [Nat.zero_mul,Nat.one_mul,Nat.add_zero] at t0 t1 t2 t3 u0 u1 u2 u3;clear dE eE cX cJ cK cL cM cV bW bX bY bZ e1;by_cases aE:0<m
      ·have d2:decide (0<m)=true:=T_ aE;have bQ:decide ((0:Int)<(m:Int))=true:=T_ (by omega);have eG:(0:Int)<(m:Int):=by omega
       obtain⟨bq,oq,p,Aq,nq,cq,rfl,Y,hp,g0,g1,r1,_,_⟩:=T.o.get aE;have b:=d.o p (List.mem_of_getElem? hp);have aY:nq<=100000:=by rw [<-r1.len];exact b
       have i:=H_ (fun U (h:Below we.heap.size we U)=>dq_ (some ⟨bL,oL,none⟩) Aq n c nq cq p.rt pos t L p.runs U (y.o.below h) (by omega) (r1.below h) aY aG.o);have s:=H_ (fun U (h:Below we.heap.size we U)=>fm_ (some ⟨bL,oL,none⟩) Aq n c nq cq p.rt pos t L p.runs U (y.o.below h) (by omega) (r1.below h) aY aG.o);obtain⟨cv,a⟩:=e_ (((bf_ L p.runs pos t:Nat):Int):Int);rw [a] at i s;have zc:(cv !=cv)=false:=by simp
       simp only [Nat.zero_mul,Nat.add_zero] at g0 g1;clear a hp r1 b
       go_wp2
       refine wb_ w9.heap.size ?_;intro C hC
       repeat(go_big_quiet_step (first
        |((intro _;with_reducible rfl))
        |(intro g;have f:=b_ N g;simp only [c_ f D t0,c_ f D t1,c_ f D t2,c_ f D t3,c_ f D u0,c_ f D u1,c_ f D u2,c_ f D u3,c_ f Y g0,c_ f Y g1,Result.andThen];exact⟨trivial,rfl⟩)
        |(intro g;have f:=b_ N g;(with_reducible refine(bC.o _ f).mono ?_);rintro e G ⟨rfl,F⟩;exact⟨rfl,u_ g F⟩)
        |(intro g;have f:=b_ N g;(with_reducible refine(bD.o _ f).mono ?_);rintro e G ⟨rfl,F⟩;exact⟨rfl,u_ g F⟩)
        |(intro g;have f:=b_ N g;(with_reducible refine(i.o _ f).mono ?_);rintro e G ⟨rfl,F⟩;exact⟨rfl,u_ g F⟩)
        |(intro g;have f:=b_ N g;(with_reducible refine(s.o _ f).mono ?_);rintro e G ⟨rfl,F⟩;exact⟨rfl,u_ g F⟩)))
       intro w9 j;clear hC;have Q:=H_ j;clear j
       go_wp2
       go_meet
       exact⟨rfl,Q⟩
      ·have d2:decide (0<m)=false:=F_ aE;have bQ:decide ((0:Int)<(m:Int))=false:=F_ (by omega)
       go_wp2
       refine wb_ w9.heap.size ?_;intro C hC
       repeat(go_big_quiet_step (first
        |((intro _;with_reducible rfl))
        |(intro g;have f:=b_ N g;simp only [c_ f D t0,c_ f D t1,c_ f D t2,c_ f D t3,c_ f D u0,c_ f D u1,c_ f D u2,c_ f D u3,Result.andThen];exact⟨trivial,rfl⟩)
        |(intro g;have f:=b_ N g;(with_reducible refine(bC.o _ f).mono ?_);rintro e G ⟨rfl,F⟩;exact⟨rfl,u_ g F⟩)
        |(intro g;have f:=b_ N g;(with_reducible refine(bD.o _ f).mono ?_);rintro e G ⟨rfl,F⟩;exact⟨rfl,u_ g F⟩)))
       intro w9 j;clear hC;have Q:=H_ j;clear j
       go_wp2
       go_meet
       exact⟨rfl,Q⟩
     ·have d1:decide (1<n)=false:=F_ aJ;have dS:decide ((1:Int)<(n:Int))=false:=F_ (by omega);by_cases aE:0<m
      ·have d2:decide (0<m)=true:=T_ aE;have bQ:decide ((0:Int)<(m:Int))=true:=T_ (by omega);have eG:(0:Int)<(m:Int):=by omega
       obtain⟨bq,oq,p,Aq,nq,cq,rfl,Y,hp,g0,g1,r1,_,_⟩:=T.o.get aE;have b:=d.o p (List.mem_of_getElem? hp);have aY:nq<=100000:=by rw [<-r1.len];exact b
       have i:=H_ (fun U (h:Below we.heap.size we U)=>dq_ A Aq n c nq cq p.rt pos t L p.runs U (y.o.below h) (by omega) (r1.below h) aY aG.o);have s:=H_ (fun U (h:Below we.heap.size we U)=>fm_ A Aq n c nq cq p.rt pos t L p.runs U (y.o.below h) (by omega) (r1.below h) aY aG.o);obtain⟨cv,a⟩:=e_ (((bf_ L p.runs pos t:Nat):Int):Int);rw [a] at i s;have zc:(cv !=cv)=false:=by simp
       simp only [Nat.zero_mul,Nat.add_zero] at g0 g1;clear a hp r1 b
       go_wp2
       refine wb_ w9.heap.size ?_;intro C hC
       repeat(go_big_quiet_step (first
        |((intro _;with_reducible rfl))
        |(intro g;have f:=b_ N g;simp only [c_ f Y g0,c_ f Y g1,Result.andThen];exact⟨trivial,rfl⟩)
        |(intro g;have f:=b_ N g;(with_reducible refine(i.o _ f).mono ?_);rintro e G ⟨rfl,F⟩;exact⟨rfl,u_ g F⟩)
        |(intro g;have f:=b_ N g;(with_reducible refine(s.o _ f).mono ?_);rintro e G ⟨rfl,F⟩;exact⟨rfl,u_ g F⟩)))
       intro w9 j;clear hC;have Q:=H_ j;clear j
       go_wp2
       go_meet
       exact⟨rfl,Q⟩
      ·have d2:decide (0<m)=false:=F_ aE;have bQ:decide ((0:Int)<(m:Int))=false:=F_ (by omega)
       go_wp2
       refine wb_ w9.heap.size ?_;intro C hC
       repeat(go_big_quiet_step (first
        |((intro _;with_reducible rfl))
       ))
       intro w9 j;clear hC;have Q:=H_ j;clear j
       go_wp2
       go_meet
       exact⟨rfl,Q⟩
    ·obtain⟨rfl,Q⟩:=hcut;have Z:=h_ N Q.o;have dQ:=H_ (dP.o.below Q.o);clear dP Q hd;obtain⟨mR,aX⟩:=e_ R.length;rw [aX] at dQ;rw [aX] at z;simp only [aX];have eK:=z.o.1;by_cases dW:mR=0
     ·subst dW;have q0:(((0:Nat):Int)==0)=true:=rfl;clear aX
      go_wp2
      refine wb_ wc.heap.size ?_;intro C hC
      repeat(go_big_quiet_step (first
       |((intro _;with_reducible rfl))
      ))
      intro w9 j;clear hC
      go_wp2
      go_returns;exact⟨rfl,b_ Z j⟩
     ·have q0:((mR:Int)==0)=false:=beq_eq_false_iff_ne.2 (by omega);have eO:(0:Int)<(mR:Int):=by omega
      obtain⟨bq,oq,p,A1,n1,c1,rfl,Y,hp,g0,g1,r1,_,_⟩:=dQ.o.get (show 0<mR by omega);have b:=z.o.2 p (List.mem_of_getElem? hp);have aJ:n1<=100000:=by rw [<-r1.len];exact b
      have i:=H_ (fun U (h:Below we.heap.size we U) (k:Below wc.heap.size wc U)=>dq_ A A1 n c n1 c1 p.rt pos t L p.runs U (y.o.below h) (by omega) (r1.below k) aJ aG.o);have s:=H_ (fun U (h:Below we.heap.size we U) (k:Below wc.heap.size wc U)=>fm_ A A1 n c n1 c1 p.rt pos t L p.runs U (y.o.below h) (by omega) (r1.below k) aJ aG.o);obtain⟨cv,a⟩:=e_ (((bf_ L p.runs pos t:Nat):Int):Int);rw [a] at i s;have zv:(cv==cv)=true:=by simp
      simp only [Nat.zero_mul,Nat.add_zero] at g0 g1;clear a hp r1 b aX
      go_wp2
      refine wb_ wc.heap.size ?_;intro C hC
      repeat(go_big_quiet_step (first
       |((intro _;with_reducible rfl))
       |(intro g;have f:=b_ Z g;simp only [c_ g Y g0,c_ g Y g1,Result.andThen];exact⟨trivial,rfl⟩)
       |(intro g;have f:=b_ Z g;(with_reducible refine(i.o _ f g).mono ?_);rintro e G ⟨rfl,F⟩;exact⟨rfl,u_ g F⟩)
       |(intro g;have f:=b_ Z g;(with_reducible refine(s.o _ f g).mono ?_);rintro e G ⟨rfl,F⟩;exact⟨rfl,u_ g F⟩)))
      intro w9 j;clear hC
      go_wp2
      go_returns;exact⟨rfl,b_ Z j⟩
